/- What the claim FnExactSessionKinds rests on, part 21 of 22; the last part proves it: for every input the law answers true, and its arguments read behind the call as before it. No condition. -/
import Derived.Test.YtjkoibfkklhaiaaQSessionKinds18
import Derived.Test.YtjkoibfkklhaiaaQSessionKinds19
set_option linter.unusedSimpArgs false
set_option linter.unusedVariables false
set_option maxRecDepth 20000
set_option maxHeartbeats 1000000
namespace Go.Proofs.Ytjkoibfkklhaiaa.G
open Go.RowKit Go.Proofs.Ytjkoibfkklhaiaa.SX
def codeOf (k v : Int) : Int := if k = 1 then v % 256 else if k = 2 then 2 else if k = 4 then 124 else 0
theorem mod256 {v : Int} : (v.tmod 256 + 256).tmod 256 = v % 256 := by
  rcases Int.le_total 0 v with h | h
  · rw [Int.tmod_eq_emod_of_nonneg h, Int.tmod_eq_emod_of_nonneg (by omega)]; omega
  · have h1 : v.tmod 256 = -((-v) % 256) := by rw [← Int.tmod_eq_emod_of_nonneg (by omega : 0 ≤ -v), Int.neg_tmod, Int.neg_neg]
    rw [h1, Int.tmod_eq_emod_of_nonneg (by omega)]; omega
theorem tmod256 (v : Int) : -256 < v.tmod 256 ∧ v.tmod 256 < 256 := by
  rcases Int.le_total 0 v with h | h
  · rw [Int.tmod_eq_emod_of_nonneg h]; omega
  · have h1 : v.tmod 256 = -((-v) % 256) := by rw [← Int.tmod_eq_emod_of_nonneg (by omega : 0 ≤ -v), Int.neg_tmod, Int.neg_neg]
    rw [h1]; omega
theorem codeOf_le (k v : Int) : 0 ≤ codeOf k v ∧ codeOf k v ≤ 255 := by
  unfold codeOf
  split
  · omega
  · split
    · omega
    · split <;> omega
structure SN where
 jobs : List Int
 hooks : List Int
 says : List Int
 code : Int
 shared : Int
def sR (l : List (List ST)) (fuel mode sh f arg : Int) : RunR := runS (PL l) (if mode = 3 then 0 else sh) f arg fuel
def sJob (l : List (List ST)) (fuel mode : Int) (q : SN) (j : Int × Int) : SN := ⟨q.jobs ++ [(sR l fuel mode q.shared j.1 j.2).k], q.hooks, q.says ++ saysL (sR l fuel mode q.shared j.1 j.2).m.trace, max q.code (codeOf (sR l fuel mode q.shared j.1 j.2).k (sR l fuel mode q.shared j.1 j.2).v), (sR l fuel mode q.shared j.1 j.2).m.shared⟩
def sJobs (l : List (List ST)) (fuel mode : Int) : List (Int × Int) → SN → SN
 | [], q => q
 | j :: js, q => if mode = 2 ∧ ¬ (sR l fuel mode q.shared j.1 j.2).k = 1 then sJob l fuel mode q j else sJobs l fuel mode js (sJob l fuel mode q j)
def sHook (l : List (List ST)) (fuel mode : Int) (q : SN) (h : Int) : SN := ⟨q.jobs, q.hooks ++ [(sR l fuel mode q.shared h q.code).k], q.says ++ saysL (sR l fuel mode q.shared h q.code).m.trace, if (sR l fuel mode q.shared h q.code).k = 1 then q.code else max q.code (codeOf (sR l fuel mode q.shared h q.code).k (sR l fuel mode q.shared h q.code).v), (sR l fuel mode q.shared h q.code).m.shared⟩
def sHooks (l : List (List ST)) (fuel mode : Int) (L : List (Nat × Int)) (q : SN) : SN := L.foldl (fun q p => sHook l fuel mode q p.2) q
def s0 : SN := ⟨[], [], [], 0, 0⟩
def sAll (l : List (List ST)) (fuel mode : Int) (js : List (Int × Int)) (hs : List Int) : SN := sHooks l fuel mode (bwd hs hs.length) (sJobs l fuel mode js s0)
theorem sHooks_app {l : List (List ST)} {fuel mode : Int} (L : List (Nat × Int)) (p : Nat × Int) (q : SN) : sHooks l fuel mode (L ++ [p]) q = sHook l fuel mode (sHooks l fuel mode L q) p.2 := by unfold sHooks; rw [List.foldl_append]; rfl
section
variable {l : List (List ST)} {fuel mode : Int} {js : List (Int × Int)} {q Q : SN} {i : Nat} {x : Int × Int}
theorem drop_at {α : Type} {l : List α} {i : Nat} {x : α} (h : l[i]? = some x) : l.drop i = x :: l.drop (i + 1) := by
 have hi := (List.getElem?_eq_some_iff.1 h).1
 rw [List.drop_eq_getElem_cons hi, (List.getElem?_eq_some_iff.1 h).2]
theorem sJobs_next (hx : js[i]? = some x) (h : sJobs l fuel mode (js.drop i) q = Q) (hk : ¬ (mode = 2 ∧ ¬ (sR l fuel mode q.shared x.1 x.2).k = 1)) : sJobs l fuel mode (js.drop (i + 1)) (sJob l fuel mode q x) = Q := by
 rw [drop_at hx, sJobs, if_neg hk] at h; exact h
theorem sJobs_stop (hx : js[i]? = some x) (h : sJobs l fuel mode (js.drop i) q = Q) (hk : mode = 2 ∧ ¬ (sR l fuel mode q.shared x.1 x.2).k = 1) : sJob l fuel mode q x = Q := by
 rw [drop_at hx, sJobs, if_pos hk] at h; exact h
theorem sJobs_end (hi : i = js.length) (h : sJobs l fuel mode (js.drop i) q = Q) : q = Q := by
 rw [hi, List.drop_length, sJobs] at h; exact h
structure SOk (q : SN) (n : Nat) : Prop where
 c0 : 0 ≤ q.code
 c1 : q.code ≤ 255
 sh : numB q.shared = true
 jl : q.jobs.length + q.hooks.length ≤ n
 sl : q.says.length ≤ 1000 * n
theorem SOk.s0 : SOk s0 0 := ⟨Int.le_refl _, (by decide), rfl, Nat.le_refl _, Nat.le_refl _⟩
theorem sR_sh {f arg sh : Int} (ha : askB l f arg fuel = true) (hs : numB sh = true) : numB (sR l fuel mode sh f arg).m.shared = true := run_sh ha (by split <;> first | rfl | exact hs)
theorem sR_len {f arg sh : Int} (ha : askB l f arg fuel = true) : (saysL (sR l fuel mode sh f arg).m.trace).length ≤ 1000 := by
 obtain ⟨h1, h2, _, h4⟩ := ask_parts ha
 exact Nat.le_trans (saysL_len _) (runOf_brief h1 h2.1 h2.2 h4)
theorem SOk.job {n : Nat} (h : SOk q n) (ha : askB l x.1 x.2 fuel = true) : SOk (sJob l fuel mode q x) (n + 1) := by
 have h1 := codeOf_le (sR l fuel mode q.shared x.1 x.2).k (sR l fuel mode q.shared x.1 x.2).v
 have h2 := sR_len (mode := mode) (sh := q.shared) ha
 have := h.c0; have := h.c1; have := h.jl; have := h.sl
 refine ⟨?_, ?_, sR_sh ha h.sh, ?_, ?_⟩ <;> simp only [sJob, List.length_append, List.length_cons, List.length_nil] <;> omega
theorem SOk.hook {n : Nat} {y : Int} (h : SOk q n) (ha : askB l y q.code fuel = true) : SOk (sHook l fuel mode q y) (n + 1) := by
  have h1 := codeOf_le (sR l fuel mode q.shared y q.code).k (sR l fuel mode q.shared y q.code).v
  have h2 := sR_len (mode := mode) (sh := q.shared) ha
  have := h.c0; have := h.c1; have := h.jl; have := h.sl
  refine ⟨?_, ?_, sR_sh ha h.sh, ?_, ?_⟩
  · show (0 : Int) ≤ if _ then _ else _
    split
    · exact h.c0
    · exact Int.le_trans h.c0 (Int.le_max_left _ _)
  · show (if _ then _ else _ : Int) ≤ 255
    split
    · exact h.c1
    · exact Int.max_le.2 ⟨h.c1, h1.2⟩
  · simp only [sHook, List.length_append, List.length_cons, List.length_nil]; omega
  · simp only [sHook, List.length_append]; omega
end
def isFB (l : List (List ST)) (f : Int) : Bool := programB l && inB f 0 ((l.length : Int) - 1)
def jobB (l : List (List ST)) (j : Int × Int) : Bool := isFB l j.1 && numB j.2
def badJb (l : List (List ST)) (js : List (Int × Int)) : Bool := js.any fun j => !(jobB l j)
def badHk (l : List (List ST)) (hs : List Int) : Bool := hs.any fun h => !(isFB l h)
def sessB (l : List (List ST)) (js : List (Int × Int)) (hs : List Int) (mode : Int) : Bool := decide (js.length ≤ 12) && decide (hs.length ≤ 12) && inB mode 1 3 && !(badJb l js) && !(badHk l hs)
def playB (l : List (List ST)) (js : List (Int × Int)) (hs : List Int) (mode fuel : Int) : Bool := programB l && sessB l js hs mode && inB fuel 0 200
section
variable {α : Type} {p : α → Bool} {l : List α} {n : Nat} {x : α}
theorem anyN_yes (hx : l[n]? = some x) (h : p x = false) : (l.any fun z => !(p z)) = true := by
 rw [List.any_eq_true]; exact ⟨x, List.mem_of_getElem? hx, by rw [h]; rfl⟩
theorem anyN_no (h : ∀ (j : Nat) (z : α), j < n → l[j]? = some z → p z = true) (hn : l.length ≤ n) : (l.any fun z => !(p z)) = false := by
 rw [List.any_eq_false]; intro z hz
 obtain ⟨j, hj⟩ := List.getElem?_of_mem hz
 rw [h j z (by have := (List.getElem?_eq_some_iff.1 hj).1; omega) hj]; decide
theorem anyN_next (hx : l[n]? = some x) (hall : ∀ (j : Nat) (z : α), j < n → l[j]? = some z → p z = true) (h : p x = true) : ∀ (j : Nat) (z : α), j < n + 1 → l[j]? = some z → p z = true := by
 intro j z hj hz
 by_cases he : j = n
 · subst he; rw [hx] at hz; cases hz; exact h
 · exact hall j z (by omega) hz
theorem anyN_at (h : (l.any fun z => !(p z)) = false) (hx : l[n]? = some x) : p x = true := by
 rw [List.any_eq_false] at h
 have := h x (List.mem_of_getElem? hx)
 cases hp : p x with
 | true => rfl
 | false => rw [hp] at this; exact absurd rfl this
end
section
variable {l : List (List ST)} {js : List (Int × Int)} {hs : List Int} {mode fuel : Int} {i : Nat}
theorem sess_parts (h : sessB l js hs mode = true) : js.length ≤ 12 ∧ hs.length ≤ 12 ∧ (1 ≤ mode ∧ mode ≤ 3) ∧ badJb l js = false ∧ badHk l hs = false := by
 simp only [sessB, inB, Bool.and_eq_true, decide_eq_true_eq, Bool.not_eq_true'] at h
 exact ⟨h.1.1.1.1, h.1.1.1.2, h.1.1.2, h.1.2, h.2⟩
theorem play_parts (h : playB l js hs mode fuel = true) : programB l = true ∧ sessB l js hs mode = true ∧ inB fuel 0 200 = true := by
 simp only [playB, Bool.and_eq_true] at h; exact ⟨h.1.1, h.1.2, h.2⟩
theorem play_job {j : Int × Int} (h : playB l js hs mode fuel = true) (hj : js[i]? = some j) : askB l j.1 j.2 fuel = true := by
 obtain ⟨_, h2, h3⟩ := play_parts h
 have h4 := anyN_at (p := jobB l) (sess_parts h2).2.2.2.1 hj
 simp only [jobB, isFB, Bool.and_eq_true] at h4
 simp only [askB, Bool.and_eq_true]
 exact ⟨⟨h4.1, h4.2⟩, h3⟩
theorem play_hook {y c : Int} (h : playB l js hs mode fuel = true) (hy : hs[i]? = some y) (h0 : 0 ≤ c) (h1 : c ≤ 255) : askB l y c fuel = true := by
 obtain ⟨_, h2, h3⟩ := play_parts h
 have h4 := anyN_at (p := isFB l) (sess_parts h2).2.2.2.2 hy
 simp only [isFB, Bool.and_eq_true] at h4
 simp only [askB, Bool.and_eq_true]
 exact ⟨⟨h4, by simp only [numB, Bool.and_eq_true, decide_eq_true_eq]; omega⟩, h3⟩
end
def playS (l : List (List ST)) (js : List (Int × Int)) (hs : List Int) (mode fuel : Int) : SN := if playB l js hs mode fuel = true then sAll l fuel mode js hs else s0
theorem SOk.mono {q : SN} {n m : Nat} (h : SOk q n) (hm : n ≤ m) : SOk q m := ⟨h.c0, h.c1, h.sh, Nat.le_trans h.jl hm, Nat.le_trans h.sl (Nat.mul_le_mul_left _ hm)⟩
theorem sJobs_ok {l : List (List ST)} {fuel mode : Int} : ∀ (js : List (Int × Int)) (q : SN) (n : Nat), (∀ j ∈ js, askB l j.1 j.2 fuel = true) → SOk q n → SOk (sJobs l fuel mode js q) (n + js.length)
  | [], q, n, _, h => h
  | j :: js, q, n, ha, h => by
    have h1 := h.job (mode := mode) (ha j List.mem_cons_self)
    rw [sJobs]
    split
    · exact h1.mono (by simp only [List.length_cons]; omega)
    · have := sJobs_ok (mode := mode) js _ (n + 1) (fun j hj => ha j (List.mem_cons_of_mem _ hj)) h1
      exact this.mono (by simp only [List.length_cons]; omega)
theorem sHooks_ok {l : List (List ST)} {fuel mode : Int} : ∀ (L : List (Nat × Int)) (q : SN) (n : Nat), (∀ p ∈ L, ∀ c : Int, 0 ≤ c → c ≤ 255 → askB l p.2 c fuel = true) → SOk q n → SOk (sHooks l fuel mode L q) (n + L.length)
 | [], q, n, _, h => h
 | p :: L, q, n, ha, h => by
  have h1 := h.hook (mode := mode) (ha p List.mem_cons_self _ h.c0 h.c1)
  have := sHooks_ok (mode := mode) L (sHook l fuel mode q p.2) (n + 1) (fun p hp => ha p (List.mem_cons_of_mem _ hp)) h1
  exact this.mono (by simp only [List.length_cons]; omega)
theorem bwd_mem {hs : List Int} {k : Nat} (hk : k ≤ hs.length) : ∀ p ∈ bwd hs k, hs[p.1]? = some p.2 := by
 intro p hp
 simp only [bwd, List.mem_map, List.mem_range] at hp
 obtain ⟨j, hj, rfl⟩ := hp
 have : hs.length - 1 - j < hs.length := by omega
 simp [List.getD_eq_getElem?_getD, List.getElem?_eq_getElem this]
theorem playS_ok (l : List (List ST)) (js : List (Int × Int)) (hs : List Int) (mode fuel : Int) : SOk (playS l js hs mode fuel) 24 := by
  unfold playS
  split
  · rename_i h
    obtain ⟨_, h2, _⟩ := play_parts h;obtain ⟨h3, h4, _⟩ := sess_parts h2;have h5 := sJobs_ok (mode := mode) js s0 0 (fun j hj => by obtain ⟨i, hi⟩ := List.getElem?_of_mem hj; exact play_job h hi) SOk.s0;have h6 := sHooks_ok (mode := mode) (bwd hs hs.length) _ _ (fun p hp c h0 h1 => play_hook h (bwd_mem (Nat.le_refl _) p hp) h0 h1) h5;rw [bwd_length] at h6;exact h6.mono (by omega)
  · exact SOk.s0.mono (by decide)
theorem playS_no {l : List (List ST)} {js : List (Int × Int)} {hs : List Int} {mode fuel : Int} (h : playB l js hs mode fuel = false) : playS l js hs mode fuel = s0 := by unfold playS; rw [h]; rfl
theorem playS_yes {l : List (List ST)} {js : List (Int × Int)} {hs : List Int} {mode fuel : Int} (h : playB l js hs mode fuel = true) : playS l js hs mode fuel = sAll l fuel mode js hs := if_pos h
def kindsP (l : List (List ST)) (js : List (Int × Int)) (hs : List Int) (mode fuel : Int) : List Int × List Int × Bool := ((playS l js hs mode fuel).jobs, (playS l js hs mode fuel).hooks, playB l js hs mode fuel)
theorem kindsP_len (l : List (List ST)) (js : List (Int × Int)) (hs : List Int) (mode fuel : Int) : (kindsP l js hs mode fuel).1.length ≤ 24 ∧ (kindsP l js hs mode fuel).2.1.length ≤ 24 := by
 have := (playS_ok l js hs mode fuel).jl
 exact ⟨by show (playS l js hs mode fuel).jobs.length ≤ 24; omega, by show (playS l js hs mode fuel).hooks.length ≤ 24; omega⟩
end Go.Proofs.Ytjkoibfkklhaiaa.G
namespace Go.Proofs.Ytjkoibfkklhaiaa.G
open Go.RowKit Go.Proofs.Ytjkoibfkklhaiaa.SX Go.Proofs.YtjkoibfkklhaiaaW.PrintWords Go.Proofs.YtjkoibfkklhaiaaW.PrintLast Go.Proofs.YtjkoibfkklhaiaaW.PrintMore
theorem ipr_sat {w0 w : World} {Rs : List Asn} {s : Sl} {l : List (List ST)} (hS : Sat w0 w Rs) (hr : RdP w s l) :
  Calls Try.prog 84 #[.agg #[.slice s.A s.n s.c]] w (Ret fun r w' => r = .bool (programB l) ∧ Sat w0 w' Rs) := by
 have := impl_IsProgram.calls s.A s.c l (programB l) w hr.rd hr.le rfl
 rw [← hr.len] at this
 refine this.mono ?_
 rintro e w' ⟨rfl, hb⟩
 exact ⟨rfl, Sat.skip hS hb⟩
theorem qF_sat {w0 w : World} {Rs : List Asn} {s : Sl} {l : List (List ST)} {x : Int} (hS : Sat w0 w Rs) (hr : RdP w s l) (hf : Fits l) (hp : programB l = true) :
  Calls Try.prog 101 #[.agg #[.slice s.A s.n s.c], .int .i64 x] w (Ret fun r w' => r = .bool (isFB l x) ∧ Sat w0 w' Rs) := by
 have h3 := hf.len
 refine (q_fun hS x (pv := s) (by rw [hr.len]; omega)).mono fun e w' h => ?_
 cases e with
 | returned r => exact ⟨by rw [h.1, hr.len]; unfold isFB inB; rw [hp]; rfl, h.2⟩
 | _ => exact h.elim
theorem code120 : Try.f120.body = some (Code.seq (cr Try.f120 0 false) (Code.seq (cr Try.f120 1 false) Code.ret)) := by kernel_rfl
theorem isF_sat0 {w0 : World} {s : Sl} {l : List (List ST)} {f : Int} (hr : RdP w0 s l) (hf : Fits l) :
  Calls Try.prog 120 #[.agg #[.slice s.A s.n s.c], .int .i64 f] w0 (Ret fun r w' => r = .bool (isFB l f) ∧ Sat w0 w' []) := by
 have hS : Sat w0 w0 [] := Sat.start w0
 have hfl := hf.len
 have hrn := hr.len
 refine enter (n := 15) Try.func120 code120 (by kernel_rfl) (Nat.le_of_ble_eq_true rfl) (fun a ha => ?_)
 replace ha : Has 15 [(0, .agg #[.slice s.A s.n s.c]), (1, iv f)] a := ha
 refine wp_seq (jX [0, 1] (jK (qX 2 [.slice s.A s.n s.c] 35 (ptr · 0) ha hS fun b1 w a hb2 hS ha => ?_)))
 refine jQ [(1, 4, .bool false)] ha fun a ha => ?_
 refine jY (jJ (wp_seq (jX [0, 1, 2, 3, 4, 5, 6, 7, 8, 9, 10] (yG 5 ha (hS.blk 0 rfl) fun a ha => ?_))))
 refine jK (qK 6 (vs := [.agg #[.slice s.A s.n s.c]]) ha (ipr_sat hS (hr.sat hS)) fun v3 w a hp4 ha => ?_)
 obtain ⟨rfl, hS⟩ := hp4
 refine jQ [(2, 7, .bool (programB l))] ha fun a ha => ?_
 rcases Bool.eq_false_or_eq_true (programB l) with c5 | c5
 ·
  replace ha := ha.turn 6 (.bool true) rfl (congrArg Value.bool c5)
  replace ha := ha.turn 7 (.bool true) rfl (congrArg Value.bool c5)
  refine jQ [(3, 8, iv f), (4, 9, ptr b1 0)] ha fun a ha => ?_
  refine jG (d := 10) (b := b1) (j := 0) ha (hS.blk 0 rfl) rfl fun a ha => ?_
  refine jQ [(6, 11, iv (s.n : Int))] ha fun a ha => ?_
  refine zX 12 ((s.n : Int) - 1) ha fun a ha => ?_
  refine jK (qK 13 (vs := [iv f, iv 0, iv ((s.n : Int) - 1)]) ha (in_sat hS _ _ _) fun v6 w a hp7 ha => ?_)
  obtain ⟨rfl, hS⟩ := hp7
  refine jQ [(9, 14, .bool (inB f 0 ((s.n : Int) - 1))), (10, 4, .bool (inB f 0 ((s.n : Int) - 1)))] ha fun a ha => ?_
  refine jY (jJ (wp_ret (jH ha (by kernel_rfl) (xZ (t := 4) ha rfl) ?_)))
  have hE : isFB l f = (inB f 0 ((s.n : Int) - 1)) := by unfold isFB; rw [← hr.len, c5, Bool.true_and]
  rw [hE]
  exact ⟨rfl, Sat.rest [_] hS⟩
 replace ha := ha.turn 6 (.bool false) rfl (congrArg Value.bool c5)
 replace ha := ha.turn 7 (.bool false) rfl (congrArg Value.bool c5)
 refine jQ [(3, 8, undef), (4, 9, undef), (5, 10, undef), (6, 11, undef), (7, 12, undef), (8, 13, undef), (9, 14, .bool false), (10, 4, .bool false)] ha fun a ha => ?_
 refine jY (jJ (wp_ret (jH ha (by kernel_rfl) (xZ (t := 4) ha rfl) ?_)))
 have hE : isFB l f = false := by unfold isFB; rw [c5]; rfl
 rw [hE]
 exact ⟨rfl, Sat.rest [_] hS⟩
theorem isF_sat {w0 w : World} {Rs : List Asn} {s : Sl} {l : List (List ST)} {f : Int} (hS : Sat w0 w Rs) (hr : RdP w s l) (hf : Fits l) :
  Calls Try.prog 120 #[.agg #[.slice s.A s.n s.c], .int .i64 f] w (Ret fun r w' => r = .bool (isFB l f) ∧ Sat w0 w' Rs) := lift0 hS (isF_sat0 hr hf)
theorem code119 : Try.f119.body = some (Code.seq (cr Try.f119 0 false) (Code.seq (cr Try.f119 1 false) Code.ret)) := by kernel_rfl
theorem kj_sat {w0 w : World} {Rs : List Asn} {s : Sl} {l : List (List ST)} {bp : Nat} {x0 x1 : Int} (hS : Sat w0 w (SX.blk bp [.slice s.A s.n s.c] 35 :: Rs)) (hr : RdP w0 s l) (hf : Fits l) :
  Calls Try.prog 119 #[.agg #[iv x0, iv x1], ptr bp 0] w (Ret fun r w' => r = .bool (!(jobB l (x0, x1))) ∧ Sat w0 w' (SX.blk bp [.slice s.A s.n s.c] 35 :: Rs)) := by
 refine enter (n := 15) Try.func119 code119 (by kernel_rfl) (Nat.le_of_ble_eq_true rfl) (fun a ha => ?_)
 replace ha : Has 15 [(0, .agg #[iv x0, iv x1]), (1, ptr bp 0)] a := ha
 refine wp_seq (jX [0, 1] (jK (qX 2 [iv x0, iv x1] 131 (ptr · 0) ha hS fun b1 w a hb2 hS ha => ?_)))
 refine jQ [(1, 3, .bool false)] ha fun a ha => ?_
 refine jY (jJ (wp_seq (jX [0, 1, 2, 3, 4, 5, 6, 7, 8, 9, 10, 11] (yG 4 ha (hS.blk 1 rfl) fun a ha => ?_))))
 refine jQ [(1, 5, ptr b1 0)] ha fun a ha => ?_
 refine jG (d := 6) (b := b1) (j := 0) ha (hS.blk 0 rfl) rfl fun a ha => ?_
 refine jK (qK 7 (vs := [.agg #[.slice s.A s.n s.c], iv x0]) ha (isF_sat hS (hr.sat hS) hf) fun v3 w a hp4 ha => ?_)
 obtain ⟨rfl, hS⟩ := hp4
 refine jQ [(4, 8, .bool (!((isFB l x0)))), (5, 9, .bool (!((isFB l x0))))] ha fun a ha => ?_
 rcases Bool.eq_false_or_eq_true (isFB l x0) with c5 | c5
 ·
  replace ha := ha.turn 7 (.bool true) rfl (congrArg Value.bool c5)
  replace ha := ha.turn 8 (.bool false) rfl (congrArg Value.bool (yX c5))
  replace ha := ha.turn 9 (.bool false) rfl (congrArg Value.bool (yX c5))
  refine jQ [(6, 10, ptr b1 1)] ha fun a ha => ?_
  refine jG (d := 11) (b := b1) (j := 1) ha (hS.blk 0 rfl) rfl fun a ha => ?_
  refine jK (qK 12 (vs := [iv x1]) ha (num_sat hS _) fun v6 w a hp7 ha => ?_)
  obtain ⟨rfl, hS⟩ := hp7
  refine jQ [(9, 13, .bool (!((numB x1)))), (10, 14, .bool (!((numB x1)))), (11, 3, .bool (!((numB x1))))] ha fun a ha => ?_
  refine jY (jJ (wp_ret (jH ha (by kernel_rfl) (xZ (t := 3) ha rfl) ?_)))
  have hE : (!(jobB l (x0, x1))) = !((numB x1)) := by simp [jobB, c5]
  rw [hE]
  replace hS := hS.pickN 2 [1]
  exact ⟨rfl, hS⟩
 replace ha := ha.turn 7 (.bool false) rfl (congrArg Value.bool c5)
 replace ha := ha.turn 8 (.bool true) rfl (congrArg Value.bool (zY c5))
 replace ha := ha.turn 9 (.bool true) rfl (congrArg Value.bool (zY c5))
 refine jQ [(6, 10, undef), (7, 11, undef), (8, 12, undef), (9, 13, undef), (10, 14, .bool true), (11, 3, .bool true)] ha fun a ha => ?_
 refine jY (jJ (wp_ret (jH ha (by kernel_rfl) (xZ (t := 3) ha rfl) ?_)))
 have hE : (!(jobB l (x0, x1))) = true := by simp [jobB, c5]
 rw [hE]
 replace hS := hS.pickN 2 [1]
 exact ⟨rfl, hS⟩
theorem code123 : Try.f123.body = some (Code.seq (cr Try.f123 0 false) (Code.seq (cr Try.f123 1 false) Code.ret)) := by kernel_rfl
theorem kh_sat {w0 w : World} {Rs : List Asn} {s : Sl} {l : List (List ST)} {bp : Nat} {x : Int} (hS : Sat w0 w (SX.blk bp [.slice s.A s.n s.c] 35 :: Rs)) (hr : RdP w0 s l) (hf : Fits l) :
  Calls Try.prog 123 #[iv x, ptr bp 0] w (Ret fun r w' => r = .bool (!(isFB l x)) ∧ Sat w0 w' (SX.blk bp [.slice s.A s.n s.c] 35 :: Rs)) := by
 refine enter (n := 8) Try.func123 code123 (by kernel_rfl) (Nat.le_of_ble_eq_true rfl) (fun a ha => ?_)
 replace ha : Has 8 [(0, iv x), (1, ptr bp 0)] a := ha
 refine wp_seq (jX [0] (jQ [(0, 3, .bool false)] ha fun a ha => ?_))
 refine jY (jJ (wp_seq (jX [0, 1, 2, 3, 4] (yG 4 ha (hS.blk 0 rfl) fun a ha => ?_))))
 refine jQ [(1, 5, iv x)] ha fun a ha => ?_
 refine jK (qK 6 (vs := [.agg #[.slice s.A s.n s.c], iv x]) ha (isF_sat hS (hr.sat hS) hf) fun v1 w a hp2 ha => ?_)
 obtain ⟨rfl, hS⟩ := hp2
 refine jQ [(3, 7, .bool (!((isFB l x)))), (4, 3, .bool (!((isFB l x))))] ha fun a ha => ?_
 refine jY (jJ (wp_ret (jH ha (by kernel_rfl) (xZ (t := 3) ha rfl) ?_)))
 have hE : (!(isFB l x)) = !((isFB l x)) := by simp []
 rw [hE]
 replace hS : Sat w0 w ((SX.blk bp [.slice s.A s.n s.c] 35) :: Rs) := hS
 exact ⟨rfl, hS⟩
theorem code140 : Try.f140.body = some (Code.seq (cr Try.f140 0 false) (Code.seq (Code.seq (cr Try.f140 1 false) (Code.block 0 (Code.loop (Code.seq (cr Try.f140 2 false) (Code.seq (Code.cond (Operand.tmp 9) Code.skip (Code.exit 0)) (Code.seq (Code.block 1 (Code.seq (cr Try.f140 3 false) (Code.seq (cr Try.f140 4 false) (Code.cond (Operand.tmp 16) (Code.seq (cr Try.f140 5 false) Code.ret) Code.skip)))) (cr Try.f140 6 false))))))) (Code.seq (cr Try.f140 7 false) Code.ret))) := by kernel_rfl
theorem jidx_sat {w0 w : World} {Rs : List Asn} {s sj : Sl} {l : List (List ST)} {js : List (Int × Int)} {bp : Nat} (hS : Sat w0 w (SX.blk bp [.slice s.A s.n s.c] 35 :: Rs)) (hr : RdP w0 s l) (hf : Fits l) (hrj : RdE cellsR 2 w0 sj js) :
  Calls Try.prog 140 #[.slice sj.A sj.n sj.c, .func (.func 119) #[] #[ptr bp 0]] w (Ret fun r w' => ∃ kx : Int, r = .int .i64 kx ∧ decide (kx ≥ 0) = badJb l js ∧ Sat w0 w' (SX.blk bp [.slice s.A s.n s.c] 35 :: Rs)) := by
 have hdl := hrj.len
 have hbig := hrj.big
 refine enter (n := 19) Try.func140 code140 (by kernel_rfl) (Nat.le_of_ble_eq_true rfl) (fun a ha => ?_)
 replace ha : Has 19 [(0, .slice sj.A sj.n sj.c), (1, .func (.func 119) #[] #[ptr bp 0])] a := ha
 refine wp_seq (jX [0] (jQ [(0, 4, iv 0)] ha fun a ha => ?_))
 refine jY (jJ (wp_seq (wp_seq (jX [0, 1, 2] (jQ [(0, 6, .slice sj.A sj.n sj.c), (1, 7, iv (sj.n : Int)), (2, 8, iv 0)] ha fun a ha => ?_)))))
 refine jY (jJ (wp_block ?_))
 refine wp_loop_ghost (fun n_ a_ w_ => ∃ (i : Nat), n_ = js.length - i ∧ (i ≤ js.length) ∧ (∀ (j : Nat) z, j < i → js[j]? = some z → jobB l z = true) ∧ Has 19 [(0, .slice sj.A sj.n sj.c), (1, .func (.func 119) #[] #[ptr bp 0]), (7, iv (sj.n : Int)), (8, iv (i : Int))] a_ ∧ Sat w0 w_ ((SX.blk bp [.slice s.A s.n s.c] 35) :: Rs)) _ ⟨0, rfl, Nat.zero_le _, (fun j z hj => by omega), ha.keeps [0, 1, 7, 8] _ rfl, hS⟩ ?_
 rintro n_ a w ⟨i, rfl, hi, hall, ha, hS⟩
 refine wp_seq (jX [0] (jQ [(0, 9, .bool (decide ((i : Int) < (sj.n : Int))))] ha fun a ha => ?_))
 refine jY (jJ (wp_seq ?_))
 by_cases c1 : (i : Int) < (sj.n : Int)
 ·
  have hlt : i < js.length := by omega
  obtain ⟨x9, hx9⟩ : ∃ x, js[i]? = some x := ⟨_, List.getElem?_eq_getElem hlt⟩
  refine jU ha rfl (decide_eq_true c1) ?_
  refine wp_skip (jJ (wp_seq (wp_block (wp_seq (jX [0, 1] (jQ [(0, 10, iv (i : Int)), (1, 5, iv (i : Int))] ha fun a ha => ?_))))))
  refine jY (jJ (wp_seq (jX [0, 1, 2, 3, 4, 5] (jQ [(0, 11, .func (.func 119) #[] #[ptr bp 0]), (1, 12, .slice sj.A sj.n sj.c), (2, 13, iv (i : Int))] ha fun a ha => ?_))))
  refine yK (.pointer (some ⟨bk sj, of_ sj + i * 2, none⟩)) ha (kX (el := 131) (sz := 2) (j := i) ha (yW (t := 37) (x := 12) (y := 13) (d := 14)) rfl rfl (by kernel_rfl) (by kernel_rfl) (RdE.at_ (hrj.sat hS) _ _ hx9).1 (rfl) (by rw [((hrj.sat hS)).len]; exact (List.getElem?_eq_some_iff.1 hx9).1)) fun a ha => ?_
  refine yK (.agg #[iv x9.1, iv x9.2]) ha (v_loadE (b := bk sj) (f := of_ sj + i * 2) (vs := [iv x9.1, iv x9.2]) ha (zZ (t := 131) (x := 14) (d := 15) (ty := 131)) rfl (by kernel_rfl) (fun w' hw o u hu => by rw [hw]; exact (RdE.at_ (hrj.sat hS) _ _ hx9).2 o u hu)) fun a ha => ?_
  replace hS : Sat w0 w ((SX.blk bp [.slice s.A s.n s.c] 35) :: Rs) := hS
  refine jK (o_retF (t := 11) (f := 119) (cap := [ptr bp 0]) ha (by decide) (zV (op := (Op.call { callee := (Callee.value (Operand.tmp 11)), args := #[(Operand.tmp 15)], argTypes := #[131] })) (d := some 16) (ty := 4)) rfl rfl Try.func119 (by kernel_rfl) (kj_sat (x0 := x9.1) (x1 := x9.2) hS hr hf) fun v2 w a hp3 ha => ?_)
  obtain ⟨rfl, hS⟩ := hp3
  refine jY (jJ ?_)
  rcases Bool.eq_false_or_eq_true (jobB l x9) with c4 | c4
  ·
   refine jW ha rfl (yX c4) ?_;refine wp_skip (in_n (jJ (jX [0, 1] (zX 18 ((i : Int) + 1) ha fun a ha => ?_))));refine jQ [(1, 8, iv ((i : Int) + 1))] ha fun a ha => ?_;refine jY (jJ ?_);exact ⟨_, by omega, i + 1, rfl, by omega, anyN_next hx9 hall c4, ha.keeps [0, 1, 7, 8] _ rfl, hS⟩
  refine jU ha rfl (zY c4) ?_
  refine wp_seq (jX [0, 1] (jQ [(0, 17, iv (i : Int)), (1, 4, iv (i : Int))] ha fun a ha => ?_))
  refine jY (jJ (wp_ret (in_r (qU (qU (in_r (qU (jH ha (by kernel_rfl) (xZ (t := 4) ha rfl) ?_))))))))
  exact ⟨_, rfl, by rw [show badJb l js = true from anyN_yes hx9 c4]; exact decide_eq_true (by omega), hS⟩
 refine jW ha rfl (decide_eq_false c1) ?_
 refine wp_exit (xV (xV (in_x (jJ (wp_seq (jX [0] (jQ [(0, 4, iv (-1))] ha fun a ha => ?_)))))))
 refine jY (jJ (wp_ret (jH ha (by kernel_rfl) (xZ (t := 4) ha rfl) ?_)))
 exact ⟨_, rfl, by rw [show badJb l js = false from anyN_no hall (by omega)]; decide, hS⟩
theorem code118 : Try.f118.body = some (Code.seq (cr Try.f118 0 false) (Code.seq (cr Try.f118 1 false) Code.ret)) := by kernel_rfl
theorem jcon_sat {w0 w : World} {Rs : List Asn} {s sj : Sl} {l : List (List ST)} {js : List (Int × Int)} {bp : Nat} (hS : Sat w0 w (SX.blk bp [.slice s.A s.n s.c] 35 :: Rs)) (hr : RdP w0 s l) (hf : Fits l) (hrj : RdE cellsR 2 w0 sj js) :
  Calls Try.prog 118 #[.slice sj.A sj.n sj.c, .func (.func 119) #[] #[ptr bp 0]] w (Ret fun r w' => r = .bool (badJb l js) ∧ Sat w0 w' (SX.blk bp [.slice s.A s.n s.c] 35 :: Rs)) := by
 refine enter (n := 9) Try.func118 code118 (by kernel_rfl) (Nat.le_of_ble_eq_true rfl) (fun a ha => ?_)
 replace ha : Has 9 [(0, .slice sj.A sj.n sj.c), (1, .func (.func 119) #[] #[ptr bp 0])] a := ha
 refine wp_seq (jX [0] (jQ [(0, 4, .bool false)] ha fun a ha => ?_))
 refine jY (jJ (wp_seq (jX [0, 1, 2, 3, 4] (jQ [(0, 5, .slice sj.A sj.n sj.c), (1, 6, .func (.func 119) #[] #[ptr bp 0])] ha fun a ha => ?_))))
 replace hS : Sat w0 w ((SX.blk bp [.slice s.A s.n s.c] 35) :: Rs) := hS
 refine jK (qK 7 (vs := [.slice sj.A sj.n sj.c, .func (.func 119) #[] #[ptr bp 0]]) ha (jidx_sat hS hr hf hrj) fun v1 w a hp2 ha => ?_)
 obtain ⟨kx, rfl, hkx, hS⟩ := hp2
 refine jQ [(3, 8, .bool (decide (kx ≥ 0))), (4, 4, .bool (decide (kx ≥ 0)))] ha fun a ha => ?_
 refine jY (jJ (wp_ret (jH ha (by kernel_rfl) (xZ (t := 4) ha rfl) ?_)))
 exact ⟨congrArg Value.bool (show (decide (kx ≥ 0)) = badJb l js from hkx), hS⟩
theorem code141 : Try.f141.body = some (Code.seq (cr Try.f141 0 false) (Code.seq (Code.seq (cr Try.f141 1 false) (Code.block 0 (Code.loop (Code.seq (cr Try.f141 2 false) (Code.seq (Code.cond (Operand.tmp 9) Code.skip (Code.exit 0)) (Code.seq (Code.block 1 (Code.seq (cr Try.f141 3 false) (Code.seq (cr Try.f141 4 false) (Code.cond (Operand.tmp 16) (Code.seq (cr Try.f141 5 false) Code.ret) Code.skip)))) (cr Try.f141 6 false))))))) (Code.seq (cr Try.f141 7 false) Code.ret))) := by kernel_rfl
theorem hidx_sat {w0 w : World} {Rs : List Asn} {s sh : Sl} {l : List (List ST)} {hs : List Int} {bp : Nat} (hS : Sat w0 w (SX.blk bp [.slice s.A s.n s.c] 35 :: Rs)) (hr : RdP w0 s l) (hf : Fits l) (hrh : RdI w0 sh hs) :
  Calls Try.prog 141 #[.slice sh.A sh.n sh.c, .func (.func 123) #[] #[ptr bp 0]] w (Ret fun r w' => ∃ kx : Int, r = .int .i64 kx ∧ decide (kx ≥ 0) = badHk l hs ∧ Sat w0 w' (SX.blk bp [.slice s.A s.n s.c] 35 :: Rs)) := by
 have hdl := hrh.len
 have hbig := hrh.big
 refine enter (n := 19) Try.func141 code141 (by kernel_rfl) (Nat.le_of_ble_eq_true rfl) (fun a ha => ?_)
 replace ha : Has 19 [(0, .slice sh.A sh.n sh.c), (1, .func (.func 123) #[] #[ptr bp 0])] a := ha
 refine wp_seq (jX [0] (jQ [(0, 4, iv 0)] ha fun a ha => ?_))
 refine jY (jJ (wp_seq (wp_seq (jX [0, 1, 2] (jQ [(0, 6, .slice sh.A sh.n sh.c), (1, 7, iv (sh.n : Int)), (2, 8, iv 0)] ha fun a ha => ?_)))))
 refine jY (jJ (wp_block ?_))
 refine wp_loop_ghost (fun n_ a_ w_ => ∃ (i : Nat), n_ = hs.length - i ∧ (i ≤ hs.length) ∧ (∀ (j : Nat) z, j < i → hs[j]? = some z → isFB l z = true) ∧ Has 19 [(0, .slice sh.A sh.n sh.c), (1, .func (.func 123) #[] #[ptr bp 0]), (7, iv (sh.n : Int)), (8, iv (i : Int))] a_ ∧ Sat w0 w_ ((SX.blk bp [.slice s.A s.n s.c] 35) :: Rs)) _ ⟨0, rfl, Nat.zero_le _, (fun j z hj => by omega), ha.keeps [0, 1, 7, 8] _ rfl, hS⟩ ?_
 rintro n_ a w ⟨i, rfl, hi, hall, ha, hS⟩
 refine wp_seq (jX [0] (jQ [(0, 9, .bool (decide ((i : Int) < (sh.n : Int))))] ha fun a ha => ?_))
 refine jY (jJ (wp_seq ?_))
 by_cases c1 : (i : Int) < (sh.n : Int)
 ·
  have hlt : i < hs.length := by omega
  obtain ⟨x9, hx9⟩ : ∃ x, hs[i]? = some x := ⟨_, List.getElem?_eq_getElem hlt⟩
  refine jU ha rfl (decide_eq_true c1) ?_
  refine wp_skip (jJ (wp_seq (wp_block (wp_seq (jX [0, 1] (jQ [(0, 10, iv (i : Int)), (1, 5, iv (i : Int))] ha fun a ha => ?_))))))
  refine jY (jJ (wp_seq (jX [0, 1, 2, 3, 4, 5] (jQ [(0, 11, .func (.func 123) #[] #[ptr bp 0]), (1, 12, .slice sh.A sh.n sh.c), (2, 13, iv (i : Int))] ha fun a ha => ?_))))
  refine yK (.pointer (some ⟨bk sh, of_ sh + i * 1, none⟩)) ha (kQ (el := 3) (sz := 1) (j := i) ha (yW (t := 26) (x := 12) (y := 13) (d := 14)) rfl rfl (by kernel_rfl) (by kernel_rfl) ((hrh.sat hS).at_ ((List.getElem?_eq_some_iff.1 hx9).1)).1 (by rw [((hrh.sat hS)).len]; exact (List.getElem?_eq_some_iff.1 hx9).1)) fun a ha => ?_
  refine yK (iv x9) ha (zK (p := ⟨bk sh, of_ sh + i * 1, none⟩) ha (zZ (t := 3) (x := 14) (d := 15) (ty := 3)) rfl (by kernel_rfl) (fun w' hw => by rw [hw, Nat.mul_one, ← getD_is hx9]; exact ((hrh.sat hS).at_ ((List.getElem?_eq_some_iff.1 hx9).1)).2)) fun a ha => ?_
  replace hS : Sat w0 w ((SX.blk bp [.slice s.A s.n s.c] 35) :: Rs) := hS
  refine jK (o_retF (t := 11) (f := 123) (cap := [ptr bp 0]) ha (by decide) (zV (op := (Op.call { callee := (Callee.value (Operand.tmp 11)), args := #[(Operand.tmp 15)], argTypes := #[3] })) (d := some 16) (ty := 4)) rfl rfl Try.func123 (by kernel_rfl) (kh_sat (x := x9) hS hr hf) fun v2 w a hp3 ha => ?_)
  obtain ⟨rfl, hS⟩ := hp3
  refine jY (jJ ?_)
  rcases Bool.eq_false_or_eq_true (isFB l x9) with c4 | c4
  ·
   refine jW ha rfl (yX c4) ?_;refine wp_skip (in_n (jJ (jX [0, 1] (zX 18 ((i : Int) + 1) ha fun a ha => ?_))));refine jQ [(1, 8, iv ((i : Int) + 1))] ha fun a ha => ?_;refine jY (jJ ?_);exact ⟨_, by omega, i + 1, rfl, by omega, anyN_next hx9 hall c4, ha.keeps [0, 1, 7, 8] _ rfl, hS⟩
  refine jU ha rfl (zY c4) ?_
  refine wp_seq (jX [0, 1] (jQ [(0, 17, iv (i : Int)), (1, 4, iv (i : Int))] ha fun a ha => ?_))
  refine jY (jJ (wp_ret (in_r (qU (qU (in_r (qU (jH ha (by kernel_rfl) (xZ (t := 4) ha rfl) ?_))))))))
  exact ⟨_, rfl, by rw [show badHk l hs = true from anyN_yes hx9 c4]; exact decide_eq_true (by omega), hS⟩
 refine jW ha rfl (decide_eq_false c1) ?_
 refine wp_exit (xV (xV (in_x (jJ (wp_seq (jX [0] (jQ [(0, 4, iv (-1))] ha fun a ha => ?_)))))))
 refine jY (jJ (wp_ret (jH ha (by kernel_rfl) (xZ (t := 4) ha rfl) ?_)))
 exact ⟨_, rfl, by rw [show badHk l hs = false from anyN_no hall (by omega)]; decide, hS⟩
theorem code122 : Try.f122.body = some (Code.seq (cr Try.f122 0 false) (Code.seq (cr Try.f122 1 false) Code.ret)) := by kernel_rfl
theorem hcon_sat {w0 w : World} {Rs : List Asn} {s sh : Sl} {l : List (List ST)} {hs : List Int} {bp : Nat} (hS : Sat w0 w (SX.blk bp [.slice s.A s.n s.c] 35 :: Rs)) (hr : RdP w0 s l) (hf : Fits l) (hrh : RdI w0 sh hs) :
  Calls Try.prog 122 #[.slice sh.A sh.n sh.c, .func (.func 123) #[] #[ptr bp 0]] w (Ret fun r w' => r = .bool (badHk l hs) ∧ Sat w0 w' (SX.blk bp [.slice s.A s.n s.c] 35 :: Rs)) := by
 refine enter (n := 9) Try.func122 code122 (by kernel_rfl) (Nat.le_of_ble_eq_true rfl) (fun a ha => ?_)
 replace ha : Has 9 [(0, .slice sh.A sh.n sh.c), (1, .func (.func 123) #[] #[ptr bp 0])] a := ha
 refine wp_seq (jX [0] (jQ [(0, 4, .bool false)] ha fun a ha => ?_))
 refine jY (jJ (wp_seq (jX [0, 1, 2, 3, 4] (jQ [(0, 5, .slice sh.A sh.n sh.c), (1, 6, .func (.func 123) #[] #[ptr bp 0])] ha fun a ha => ?_))))
 replace hS : Sat w0 w ((SX.blk bp [.slice s.A s.n s.c] 35) :: Rs) := hS
 refine jK (qK 7 (vs := [.slice sh.A sh.n sh.c, .func (.func 123) #[] #[ptr bp 0]]) ha (hidx_sat hS hr hf hrh) fun v1 w a hp2 ha => ?_)
 obtain ⟨kx, rfl, hkx, hS⟩ := hp2
 refine jQ [(3, 8, .bool (decide (kx ≥ 0))), (4, 4, .bool (decide (kx ≥ 0)))] ha fun a ha => ?_
 refine jY (jJ (wp_ret (jH ha (by kernel_rfl) (xZ (t := 4) ha rfl) ?_)))
 exact ⟨congrArg Value.bool (show (decide (kx ≥ 0)) = badHk l hs from hkx), hS⟩
theorem code85 : Try.f85.body = some (Code.seq (cr Try.f85 0 false) (Code.seq (cr Try.f85 1 false) Code.ret)) := by kernel_rfl
theorem isS_sat0 {w0 : World} {s sj sh : Sl} {l : List (List ST)} {js : List (Int × Int)} {hs : List Int} {mode : Int} (hr : RdP w0 s l) (hf : Fits l) (hrj : RdE cellsR 2 w0 sj js) (hrh : RdI w0 sh hs) :
  Calls Try.prog 85 #[.agg #[.slice s.A s.n s.c], .agg #[.slice sj.A sj.n sj.c, .slice sh.A sh.n sh.c, .int .i64 mode]] w0 (Ret fun r w' => r = .bool (sessB l js hs mode) ∧ Sat w0 w' []) := by
 have hS : Sat w0 w0 [] := Sat.start w0
 have hjn := hrj.len
 have hhn := hrh.len
 have hjb := hrj.big
 have hhb := hrh.big
 refine enter (n := 34) Try.func85 code85 (by kernel_rfl) (Nat.le_of_ble_eq_true rfl) (fun a ha => ?_)
 replace ha : Has 34 [(0, .agg #[.slice s.A s.n s.c]), (1, .agg #[.slice sj.A sj.n sj.c, .slice sh.A sh.n sh.c, iv mode])] a := ha
 refine wp_seq (jX [0, 1, 2] (jK (qX 2 [.slice s.A s.n s.c] 35 (ptr · 0) ha hS fun b1 w a hb2 hS ha => ?_)))
 refine jK (qX 3 [.slice sj.A sj.n sj.c, .slice sh.A sh.n sh.c, iv mode] 39 (ptr · 0) ha hS fun b3 w a hb4 hS ha => ?_)
 refine jQ [(2, 4, .bool false)] ha fun a ha => ?_
 refine jY (jJ (wp_seq (jX [0, 1, 2, 3, 4, 5, 6, 7, 8, 9, 10, 11, 12, 13, 14, 15, 16, 17, 18, 19, 20, 21, 22, 23, 24, 25, 26, 27, 28, 29] (jQ [(0, 5, ptr b3 0)] ha fun a ha => ?_))))
 refine jG (d := 6) (b := b3) (j := 0) ha (hS.blk 0 rfl) rfl fun a ha => ?_
 refine jQ [(2, 7, iv (sj.n : Int)), (3, 8, .bool (decide ((sj.n : Int) ≤ 12))), (4, 9, .bool (decide ((sj.n : Int) ≤ 12)))] ha fun a ha => ?_
 by_cases c5 : (sj.n : Int) ≤ 12
 ·
  replace ha := ha.turn 8 (.bool true) rfl (congrArg Value.bool (decide_eq_true c5))
  replace ha := ha.turn 9 (.bool true) rfl (congrArg Value.bool (decide_eq_true c5))
  refine jQ [(5, 10, ptr b3 1)] ha fun a ha => ?_
  refine jG (d := 11) (b := b3) (j := 1) ha (hS.blk 0 rfl) rfl fun a ha => ?_
  refine jQ [(7, 12, iv (sh.n : Int)), (8, 13, .bool (decide ((sh.n : Int) ≤ 12))), (9, 14, .bool (decide ((sh.n : Int) ≤ 12))), (10, 15, .bool (decide ((sh.n : Int) ≤ 12)))] ha fun a ha => ?_
  by_cases c6 : (sh.n : Int) ≤ 12
  ·
   replace ha := ha.turn 13 (.bool true) rfl (congrArg Value.bool (decide_eq_true c6));replace ha := ha.turn 14 (.bool true) rfl (congrArg Value.bool (decide_eq_true c6));replace ha := ha.turn 15 (.bool true) rfl (congrArg Value.bool (decide_eq_true c6));refine jQ [(11, 16, ptr b3 2)] ha fun a ha => ?_;refine jG (d := 17) (b := b3) (j := 2) ha (hS.blk 0 rfl) rfl fun a ha => ?_;refine jK (qK 18 (vs := [iv mode, iv 1, iv 3]) ha (in_sat hS _ _ _) fun v7 w a hp8 ha => ?_);obtain ⟨rfl, hS⟩ := hp8;refine jQ [(14, 19, .bool (inB mode 1 3)), (15, 20, .bool (inB mode 1 3))] ha fun a ha => ?_
   rcases Bool.eq_false_or_eq_true (inB mode 1 3) with c9 | c9
   ·
    replace ha := ha.turn 18 (.bool true) rfl (congrArg Value.bool c9);replace ha := ha.turn 19 (.bool true) rfl (congrArg Value.bool c9);replace ha := ha.turn 20 (.bool true) rfl (congrArg Value.bool c9);refine jQ [(16, 21, ptr b3 0)] ha fun a ha => ?_;refine jG (d := 22) (b := b3) (j := 0) ha (hS.blk 0 rfl) rfl fun a ha => ?_;refine jQ [(18, 23, .func (.func 119) #[] #[ptr b1 0])] ha fun a ha => ?_;replace hS := hS.pickN 2 [1, 0];refine jK (qK 24 (vs := [.slice sj.A sj.n sj.c, .func (.func 119) #[] #[ptr b1 0]]) ha (jcon_sat hS hr hf hrj) fun v10 w a hp11 ha => ?_);obtain ⟨rfl, hS⟩ := hp11;refine jQ [(20, 25, .bool (!((badJb l js)))), (21, 26, .bool (!((badJb l js)))), (22, 27, .bool (!((badJb l js))))] ha fun a ha => ?_
    rcases Bool.eq_false_or_eq_true (badJb l js) with c12 | c12
    ·
     replace ha := ha.turn 24 (.bool true) rfl (congrArg Value.bool c12);replace ha := ha.turn 25 (.bool false) rfl (congrArg Value.bool (yX c12));replace ha := ha.turn 26 (.bool false) rfl (congrArg Value.bool (yX c12));replace ha := ha.turn 27 (.bool false) rfl (congrArg Value.bool (yX c12));refine jQ [(23, 28, undef), (24, 29, undef), (25, 30, undef), (26, 31, undef), (27, 32, undef), (28, 33, .bool false), (29, 4, .bool false)] ha fun a ha => ?_;refine jY ?_;replace ha := ha.as [(4, .bool false)] rfl;refine jJ (wp_ret (jH ha (by kernel_rfl) (xZ (t := 4) ha rfl) ?_));have e_js : decide (js.length ≤ 12) = true := decide_eq_true (by omega);have e_hs : decide (hs.length ≤ 12) = true := decide_eq_true (by omega);have hE : sessB l js hs mode = false := by unfold sessB; simp only [e_js, e_hs, c9, c12, Bool.true_and, Bool.false_and, Bool.and_true, Bool.and_false, Bool.not_true, Bool.not_false]
     rw [hE];exact ⟨rfl, Sat.rest [_, _] hS⟩
    replace ha := ha.turn 24 (.bool false) rfl (congrArg Value.bool c12);replace ha := ha.turn 25 (.bool true) rfl (congrArg Value.bool (zY c12));replace ha := ha.turn 26 (.bool true) rfl (congrArg Value.bool (zY c12));replace ha := ha.turn 27 (.bool true) rfl (congrArg Value.bool (zY c12));refine jQ [(23, 28, ptr b3 1)] ha fun a ha => ?_;refine jG (d := 29) (b := b3) (j := 1) ha (hS.blk 1 rfl) rfl fun a ha => ?_;refine jQ [(25, 30, .func (.func 123) #[] #[ptr b1 0])] ha fun a ha => ?_;replace hS : Sat w0 w ((SX.blk b1 [.slice s.A s.n s.c] 35) :: (SX.blk b3 [.slice sj.A sj.n sj.c, .slice sh.A sh.n sh.c, iv mode] 39) :: []) := hS;refine jK (qK 31 (vs := [.slice sh.A sh.n sh.c, .func (.func 123) #[] #[ptr b1 0]]) ha (hcon_sat hS hr hf hrh) fun v13 w a hp14 ha => ?_);obtain ⟨rfl, hS⟩ := hp14;refine jQ [(27, 32, .bool (!((badHk l hs)))), (28, 33, .bool (!((badHk l hs)))), (29, 4, .bool (!((badHk l hs))))] ha fun a ha => ?_;refine jY ?_;replace ha := ha.as [(4, .bool (!((badHk l hs))))] rfl;refine jJ (wp_ret (jH ha (by kernel_rfl) (xZ (t := 4) ha rfl) ?_));have e_js : decide (js.length ≤ 12) = true := decide_eq_true (by omega);have e_hs : decide (hs.length ≤ 12) = true := decide_eq_true (by omega);have hE : sessB l js hs mode = !((badHk l hs)) := by unfold sessB; simp only [e_js, e_hs, c9, c12, Bool.true_and, Bool.false_and, Bool.and_true, Bool.and_false, Bool.not_true, Bool.not_false]
    rw [hE];exact ⟨rfl, Sat.rest [_, _] hS⟩
   replace ha := ha.turn 18 (.bool false) rfl (congrArg Value.bool c9);replace ha := ha.turn 19 (.bool false) rfl (congrArg Value.bool c9);replace ha := ha.turn 20 (.bool false) rfl (congrArg Value.bool c9);refine jQ [(16, 21, undef), (17, 22, undef), (18, 23, undef), (19, 24, undef), (20, 25, undef), (21, 26, .bool false), (22, 27, .bool false), (23, 28, undef), (24, 29, undef), (25, 30, undef), (26, 31, undef), (27, 32, undef), (28, 33, .bool false), (29, 4, .bool false)] ha fun a ha => ?_;refine jY ?_;replace ha := ha.as [(4, .bool false)] rfl;refine jJ (wp_ret (jH ha (by kernel_rfl) (xZ (t := 4) ha rfl) ?_));have e_js : decide (js.length ≤ 12) = true := decide_eq_true (by omega);have e_hs : decide (hs.length ≤ 12) = true := decide_eq_true (by omega);have hE : sessB l js hs mode = false := by unfold sessB; simp only [e_js, e_hs, c9, Bool.true_and, Bool.false_and, Bool.and_true, Bool.and_false, Bool.not_true, Bool.not_false]
   rw [hE];exact ⟨rfl, Sat.rest [_, _] hS⟩
  replace ha := ha.turn 13 (.bool false) rfl (congrArg Value.bool (decide_eq_false c6))
  replace ha := ha.turn 14 (.bool false) rfl (congrArg Value.bool (decide_eq_false c6))
  replace ha := ha.turn 15 (.bool false) rfl (congrArg Value.bool (decide_eq_false c6))
  refine jQ [(11, 16, undef), (12, 17, undef), (13, 18, undef), (14, 19, .bool false), (15, 20, .bool false), (16, 21, undef), (17, 22, undef), (18, 23, undef), (19, 24, undef), (20, 25, undef), (21, 26, .bool false), (22, 27, .bool false), (23, 28, undef), (24, 29, undef), (25, 30, undef), (26, 31, undef), (27, 32, undef), (28, 33, .bool false), (29, 4, .bool false)] ha fun a ha => ?_
  refine jY ?_
  replace ha := ha.as [(4, .bool false)] rfl
  refine jJ (wp_ret (jH ha (by kernel_rfl) (xZ (t := 4) ha rfl) ?_))
  have e_js : decide (js.length ≤ 12) = true := decide_eq_true (by omega)
  have e_hs : decide (hs.length ≤ 12) = false := decide_eq_false (by omega)
  have hE : sessB l js hs mode = false := by unfold sessB; simp only [e_js, e_hs, Bool.true_and, Bool.false_and, Bool.and_true, Bool.and_false, Bool.not_true, Bool.not_false]
  rw [hE]
  exact ⟨rfl, Sat.rest [_, _] hS⟩
 replace ha := ha.turn 8 (.bool false) rfl (congrArg Value.bool (decide_eq_false c5))
 replace ha := ha.turn 9 (.bool false) rfl (congrArg Value.bool (decide_eq_false c5))
 refine jQ [(5, 10, undef), (6, 11, undef), (7, 12, undef), (8, 13, undef), (9, 14, .bool false), (10, 15, .bool false), (11, 16, undef), (12, 17, undef), (13, 18, undef), (14, 19, .bool false), (15, 20, .bool false), (16, 21, undef), (17, 22, undef), (18, 23, undef), (19, 24, undef), (20, 25, undef), (21, 26, .bool false), (22, 27, .bool false), (23, 28, undef), (24, 29, undef), (25, 30, undef), (26, 31, undef), (27, 32, undef), (28, 33, .bool false), (29, 4, .bool false)] ha fun a ha => ?_
 refine jY ?_
 replace ha := ha.as [(4, .bool false)] rfl
 refine jJ (wp_ret (jH ha (by kernel_rfl) (xZ (t := 4) ha rfl) ?_))
 have e_js : decide (js.length ≤ 12) = false := decide_eq_false (by omega)
 have hE : sessB l js hs mode = false := by unfold sessB; simp only [e_js, Bool.true_and, Bool.false_and, Bool.and_true, Bool.and_false, Bool.not_true, Bool.not_false]
 rw [hE]
 exact ⟨rfl, Sat.rest [_, _] hS⟩
theorem isS_sat {w0 w : World} {Rs : List Asn} {s sj sh : Sl} {l : List (List ST)} {js : List (Int × Int)} {hs : List Int} {mode : Int} (hS : Sat w0 w Rs) (hr : RdP w s l) (hf : Fits l) (hrj : RdE cellsR 2 w sj js) (hrh : RdI w sh hs) :
  Calls Try.prog 85 #[.agg #[.slice s.A s.n s.c], .agg #[.slice sj.A sj.n sj.c, .slice sh.A sh.n sh.c, .int .i64 mode]] w (Ret fun r w' => r = .bool (sessB l js hs mode) ∧ Sat w0 w' Rs) := lift0 hS (isS_sat0 hr hf hrj hrh)
theorem code96 : Try.f96.body = some (Code.seq (cr Try.f96 0 false) (Code.seq (Code.seq (cr Try.f96 1 false) (Code.block 0 (Code.seq (cr Try.f96 2 false) (Code.cond (Operand.tmp 5) (Code.seq (cr Try.f96 3 false) Code.ret) (Code.seq (cr Try.f96 4 false) (Code.cond (Operand.tmp 12) (Code.seq (cr Try.f96 5 false) Code.ret) (Code.seq (cr Try.f96 6 false) (Code.cond (Operand.tmp 14) (Code.seq (cr Try.f96 7 false) Code.ret) Code.skip)))))))) (Code.seq (cr Try.f96 8 false) Code.ret))) := by kernel_rfl
theorem outCode_sat {w0 w : World} {Rs : List Asn} {k v ma : Int} {tr : Sl} (hS : Sat w0 w Rs) (hk : k = 1 ∨ k = 2 ∨ k = 3 ∨ k = 4) :
  Calls Try.prog 96 #[oG k v tr ma] w (Ret fun r w' => r = .int .i64 (codeOf k v) ∧ Sat w0 w' Rs) := by
 have hv := tmod256 v
 refine enter (n := 16) Try.func96 code96 (by kernel_rfl) (Nat.le_of_ble_eq_true rfl) (fun a ha => ?_)
 replace ha : Has 16 [(0, (oG k v tr ma))] a := ha
 refine wp_seq (jX [0, 1] (jK (qX 1 [iv k, iv v, .slice tr.A tr.n tr.c, iv ma] 103 (ptr · 0) ha hS fun b1 w a hb2 hS ha => ?_)))
 refine jQ [(1, 2, iv 0)] ha fun a ha => ?_
 refine jY (jJ (wp_seq (wp_seq (jX [0, 1] (jQ [(0, 3, ptr b1 0)] ha fun a ha => ?_)))))
 refine jG (d := 4) (b := b1) (j := 0) ha (hS.blk 0 rfl) rfl fun a ha => ?_
 refine jY (jJ (wp_block (wp_seq (jX [0, 1] (jQ [(0, 6, .bool (decide (k = 1))), (1, 5, .bool (decide (k = 1)))] ha fun a ha => ?_)))))
 refine jY (jJ ?_)
 by_cases c3 : k = 1
 ·
  refine jU ha rfl (decide_eq_true c3) ?_
  refine wp_seq (jX [0, 1, 2, 3, 4, 5] (jQ [(0, 7, ptr b1 1)] ha fun a ha => ?_))
  refine jG (d := 8) (b := b1) (j := 1) ha (hS.blk 0 rfl) rfl fun a ha => ?_
  refine jQ [(2, 9, iv (v.tmod 256))] ha fun a ha => ?_
  refine zX 10 ((v.tmod 256) + 256) ha fun a ha => ?_
  refine jQ [(4, 11, iv (((v.tmod 256) + 256).tmod 256)), (5, 2, iv (((v.tmod 256) + 256).tmod 256))] ha fun a ha => ?_
  refine jY (jJ (wp_ret (in_r (qU (jH ha (by kernel_rfl) (xZ (t := 2) ha rfl) ?_)))))
  have hE : codeOf k v = ((v.tmod 256) + 256).tmod 256 := by unfold codeOf; rw [if_pos c3]; exact mod256.symm
  rw [hE]
  exact ⟨rfl, Sat.rest [_] hS⟩
 refine jW ha rfl (decide_eq_false c3) ?_
 refine wp_seq (jX [0, 1] (jQ [(0, 13, .bool (decide (k = 2))), (1, 12, .bool (decide (k = 2)))] ha fun a ha => ?_))
 refine jY (jJ ?_)
 by_cases c4 : k = 2
 ·
  refine jU ha rfl (decide_eq_true c4) ?_
  refine wp_seq (jX [0] (jQ [(0, 2, iv 2)] ha fun a ha => ?_))
  refine jY (jJ (wp_ret (in_r (qU (jH ha (by kernel_rfl) (xZ (t := 2) ha rfl) ?_)))))
  have hE : codeOf k v = 2 := by unfold codeOf; (rcases hk with h | h | h | h <;> simp_all)
  rw [hE]
  exact ⟨rfl, Sat.rest [_] hS⟩
 refine jW ha rfl (decide_eq_false c4) ?_
 refine wp_seq (jX [0, 1] (jQ [(0, 15, .bool (decide (k = 4))), (1, 14, .bool (decide (k = 4)))] ha fun a ha => ?_))
 refine jY (jJ ?_)
 by_cases c5 : k = 4
 ·
  refine jU ha rfl (decide_eq_true c5) ?_
  refine wp_seq (jX [0] (jQ [(0, 2, iv 124)] ha fun a ha => ?_))
  refine jY (jJ (wp_ret (in_r (qU (jH ha (by kernel_rfl) (xZ (t := 2) ha rfl) ?_)))))
  have hE : codeOf k v = 124 := by unfold codeOf; (rcases hk with h | h | h | h <;> simp_all)
  rw [hE]
  exact ⟨rfl, Sat.rest [_] hS⟩
 refine jW ha rfl (decide_eq_false c5) ?_
 refine wp_skip (in_n (jJ (wp_seq (jX [0] (jQ [(0, 2, iv 0)] ha fun a ha => ?_)))))
 refine jY (jJ (wp_ret (jH ha (by kernel_rfl) (xZ (t := 2) ha rfl) ?_)))
 have hE : codeOf k v = 0 := by unfold codeOf; (rcases hk with h | h | h | h <;> simp_all)
 rw [hE]
 exact ⟨rfl, Sat.rest [_] hS⟩
theorem code91 : Try.f91.body = some (Code.seq (cr Try.f91 0 false) (Code.seq (Code.seq (cr Try.f91 1 false) (Code.block 0 (Code.seq (cr Try.f91 2 false) (Code.cond (Operand.tmp 5) (Code.seq (cr Try.f91 3 false) Code.ret) (Code.seq (cr Try.f91 4 false) (Code.cond (Operand.tmp 12) (Code.seq (cr Try.f91 5 false) Code.ret) (Code.seq (cr Try.f91 6 false) (Code.cond (Operand.tmp 14) (Code.seq (cr Try.f91 7 false) Code.ret) Code.skip)))))))) (Code.seq (cr Try.f91 8 false) Code.ret))) := by kernel_rfl
theorem l10Code_sat {w0 w : World} {Rs : List Asn} {k v ma : Int} {tr : Sl} (hS : Sat w0 w Rs) (hk : k = 1 ∨ k = 2 ∨ k = 3 ∨ k = 4) :
  Calls Try.prog 91 #[oG k v tr ma] w (Ret fun r w' => r = .int .i64 (codeOf k v) ∧ Sat w0 w' Rs) := by
 have hv := tmod256 v
 refine enter (n := 16) Try.func91 code91 (by kernel_rfl) (Nat.le_of_ble_eq_true rfl) (fun a ha => ?_)
 replace ha : Has 16 [(0, (oG k v tr ma))] a := ha
 refine wp_seq (jX [0, 1] (jK (qX 1 [iv k, iv v, .slice tr.A tr.n tr.c, iv ma] 103 (ptr · 0) ha hS fun b1 w a hb2 hS ha => ?_)))
 refine jQ [(1, 2, iv 0)] ha fun a ha => ?_
 refine jY (jJ (wp_seq (wp_seq (jX [0, 1] (jQ [(0, 3, ptr b1 0)] ha fun a ha => ?_)))))
 refine jG (d := 4) (b := b1) (j := 0) ha (hS.blk 0 rfl) rfl fun a ha => ?_
 refine jY (jJ (wp_block (wp_seq (jX [0, 1] (jQ [(0, 6, .bool (decide (k = 1))), (1, 5, .bool (decide (k = 1)))] ha fun a ha => ?_)))))
 refine jY (jJ ?_)
 by_cases c3 : k = 1
 ·
  refine jU ha rfl (decide_eq_true c3) ?_
  refine wp_seq (jX [0, 1, 2, 3, 4, 5] (jQ [(0, 7, ptr b1 1)] ha fun a ha => ?_))
  refine jG (d := 8) (b := b1) (j := 1) ha (hS.blk 0 rfl) rfl fun a ha => ?_
  refine jQ [(2, 9, iv (v.tmod 256))] ha fun a ha => ?_
  refine zX 10 ((v.tmod 256) + 256) ha fun a ha => ?_
  refine jQ [(4, 11, iv (((v.tmod 256) + 256).tmod 256)), (5, 2, iv (((v.tmod 256) + 256).tmod 256))] ha fun a ha => ?_
  refine jY (jJ (wp_ret (in_r (qU (jH ha (by kernel_rfl) (xZ (t := 2) ha rfl) ?_)))))
  have hE : codeOf k v = ((v.tmod 256) + 256).tmod 256 := by unfold codeOf; rw [if_pos c3]; exact mod256.symm
  rw [hE]
  exact ⟨rfl, Sat.rest [_] hS⟩
 refine jW ha rfl (decide_eq_false c3) ?_
 refine wp_seq (jX [0, 1] (jQ [(0, 13, .bool (decide (k = 2))), (1, 12, .bool (decide (k = 2)))] ha fun a ha => ?_))
 refine jY (jJ ?_)
 by_cases c4 : k = 2
 ·
  refine jU ha rfl (decide_eq_true c4) ?_
  refine wp_seq (jX [0] (jQ [(0, 2, iv 2)] ha fun a ha => ?_))
  refine jY (jJ (wp_ret (in_r (qU (jH ha (by kernel_rfl) (xZ (t := 2) ha rfl) ?_)))))
  have hE : codeOf k v = 2 := by unfold codeOf; (rcases hk with h | h | h | h <;> simp_all)
  rw [hE]
  exact ⟨rfl, Sat.rest [_] hS⟩
 refine jW ha rfl (decide_eq_false c4) ?_
 refine wp_seq (jX [0, 1] (jQ [(0, 15, .bool (decide (k = 3))), (1, 14, .bool (decide (k = 3)))] ha fun a ha => ?_))
 refine jY (jJ ?_)
 by_cases c5 : k = 3
 ·
  refine jU ha rfl (decide_eq_true c5) ?_
  refine wp_seq (jX [0] (jQ [(0, 2, iv 0)] ha fun a ha => ?_))
  refine jY (jJ (wp_ret (in_r (qU (jH ha (by kernel_rfl) (xZ (t := 2) ha rfl) ?_)))))
  have hE : codeOf k v = 0 := by unfold codeOf; (rcases hk with h | h | h | h <;> simp_all)
  rw [hE]
  exact ⟨rfl, Sat.rest [_] hS⟩
 refine jW ha rfl (decide_eq_false c5) ?_
 refine wp_skip (in_n (jJ (wp_seq (jX [0] (jQ [(0, 2, iv 124)] ha fun a ha => ?_)))))
 refine jY (jJ (wp_ret (jH ha (by kernel_rfl) (xZ (t := 2) ha rfl) ?_)))
 have hE : codeOf k v = 124 := by unfold codeOf; (rcases hk with h | h | h | h <;> simp_all)
 rw [hE]
 exact ⟨rfl, Sat.rest [_] hS⟩
theorem rs_brief {l : List (List ST)} {f arg fuel sh : Int} (h : askB l f arg fuel = true) : (runS (PL l) sh f arg fuel).m.trace.length ≤ 1000 := by
 obtain ⟨hP, h1, _, h4⟩ := ask_parts h
 exact runOf_brief hP h1.1 h1.2 h4
theorem from_sat {w0 w : World} {Rs : List Asn} {s : Sl} {l : List (List ST)} {f arg fuel shared : Int} (hS : Sat w0 w Rs) (hr : RdP w s l) (ha : askB l f arg fuel = true) (hsh : numB shared = true) :
  Calls Try.prog 124 #[.agg #[.slice s.A s.n s.c], .int .i64 f, .int .i64 arg, .int .i64 fuel, .int .i64 shared] w (Ret fun r w' => ∃ tr : Sl, r = .tuple #[oG (runS (PL l) shared f arg fuel).k (runS (PL l) shared f arg fuel).v tr (runS (PL l) shared f arg fuel).m.made, .int .i64 (runS (PL l) shared f arg fuel).m.shared] ∧ Sat w0 w' (rE tr (runS (PL l) shared f arg fuel).m.trace :: Rs)) := by
 obtain ⟨hP, h1, h2, h3⟩ := ask_parts ha
 obtain ⟨sbs, hPr⟩ := rdProg_of (c := s.c) hr.rd
 rw [← hr.len] at hPr
 refine (q_from hP (Sat.start w) h1.1 h1.2 h2 h3 (hPr.keeps []) (by simpa only [numB, Bool.and_eq_true, decide_eq_true_eq] using hsh)).mono fun e w' h => ?_
 cases e with
 | returned r =>
  obtain ⟨tr, h4, h5⟩ := h
  exact ⟨tr, h4, hS.comp h5⟩
 | _ => exact h.elim
theorem code89 : Try.f89.body = some (Code.seq (cr Try.f89 0 false) (Code.seq (cr Try.f89 1 false) Code.ret)) := by kernel_rfl
theorem own_sat {w0 w : World} {Rs : List Asn} {s2 : Sl} {ys : List Int} (hS : Sat w0 w (rI s2 ys :: Rs)) (hyl : ys.length ≤ 1000000) :
  Calls Try.prog 89 #[.slice s2.A s2.n s2.c] w (Ret fun r w' => ∃ o : Sl, r = .slice o.A o.n o.c ∧ Sat w0 w' (rI o ys :: rI s2 ys :: Rs)) := by
 refine enter (n := 6) Try.func89 code89 (by kernel_rfl) (Nat.le_of_ble_eq_true rfl) (fun a ha => ?_)
 replace ha : Has 6 [(0, .slice s2.A s2.n s2.c)] a := ha
 refine wp_seq (jX [0] (jQ [(0, 2, .slice none 0 0)] ha fun a ha => ?_))
 refine jY (jJ (wp_seq (jX [0, 1, 2, 3] (jK (qX 3 [] 3 (fun b => .slice (some ⟨b, 0, none⟩) 0 0) ha hS fun b1 w a hb2 hS ha => ?_)))))
 refine jQ [(1, 4, .slice s2.A s2.n s2.c)] ha fun a ha => ?_
 replace hS := hS.blk0 1 0 rfl
 refine jK (o_appI (xs := []) (s2 := s2) (z := iv 0) (bytes := 8) 0 1 ha (by decide) (zV (op := (Op.call { callee := (Callee.builtin Builtin.append), args := #[(Operand.tmp 3), (Operand.tmp 4)], argTypes := #[26, 26] })) (d := some 5) (ty := 26)) rfl rfl (by kernel_rfl) (by kernel_rfl) rfl hS rfl rfl (by first | omega | (simp only [List.length_nil]; omega)) (by decide) fun s3 w a hS ha => ?_)
 refine jQ [(3, 2, .slice s3.A s3.n s3.c)] ha fun a ha => ?_
 refine jY (jJ (wp_ret (jH ha (by kernel_rfl) (xZ (t := 2) ha rfl) ?_)))
 replace hS : Sat w0 w ((rI s3 ([] ++ ys)) :: (rI s2 ys) :: Rs) := hS
 exact ⟨s3, rfl, hS⟩
theorem code95 : Try.f95.body = some (Code.seq (cr Try.f95 0 false) (Code.seq (Code.seq (cr Try.f95 1 false) (Code.cond (Operand.tmp 16) (cr Try.f95 2 false) Code.skip)) (Code.seq (cr Try.f95 3 true) (Code.seq (cr Try.f95 4 true) (Code.seq (cr Try.f95 5 false) Code.ret))))) := by kernel_rfl
theorem prun_sat {w0 w : World} {Rs : List Asn} {s ja jh os : Sl} {l : List (List ST)} {sy : List Int} {f arg fuel mode sh cd : Int} {bx : Nat} (hS : Sat w0 w ((SX.blk bx [.slice ja.A ja.n ja.c, .slice jh.A jh.n jh.c, .slice os.A os.n os.c, iv sh, iv cd] 83) :: (rI os sy) :: Rs)) (hr : RdP w0 s l) (hask : askB l f arg fuel = true) (hsl : sy.length ≤ 100000) :
  Calls Try.prog 95 #[ptr bx 0, .agg #[.slice s.A s.n s.c], .int .i64 f, .int .i64 arg, .int .i64 fuel, .int .i64 mode] w (Ret fun r w' => ∃ tr o2 : Sl, r = oG (sR l fuel mode sh f arg).k (sR l fuel mode sh f arg).v tr (sR l fuel mode sh f arg).m.made ∧ Sat w0 w' (SX.blk bx [.slice ja.A ja.n ja.c, .slice jh.A jh.n jh.c, .slice o2.A o2.n o2.c, .int .i64 (sR l fuel mode sh f arg).m.shared, .int .i64 cd] 83 :: rI o2 (sy ++ saysL (sR l fuel mode sh f arg).m.trace) :: Rs)) := by
 refine enter (n := 53) Try.func95 code95 (by kernel_rfl) (Nat.le_of_ble_eq_true rfl) (fun a ha => ?_)
 replace ha : Has 53 [(0, ptr bx 0), (1, .agg #[.slice s.A s.n s.c]), (2, iv f), (3, iv arg), (4, iv fuel), (5, iv mode)] a := ha
 refine wp_seq (jX [0, 1] (jK (qX 7 [.slice s.A s.n s.c] 35 (ptr · 0) ha hS fun b1 w a hb2 hS ha => ?_)))
 refine jK (qX 12 [iv 0, iv 0, .slice none 0 0, iv 0] 103 (ptr · 0) ha hS fun b3 w a hb4 hS ha => ?_)
 refine jY (jJ (wp_seq (wp_seq (jX [0, 1] (jQ [(0, 15, iv mode), (1, 16, .bool (decide (mode = 3)))] ha fun a ha => ?_)))))
 refine jY (jJ ?_)
 by_cases c5 : mode = 3
 ·
  refine jU ha rfl (decide_eq_true c5) ?_
  refine jX [0, 1, 2, 3] (jQ [(0, 17, ptr bx 0), (1, 18, ptr bx 0), (2, 19, ptr bx 3)] ha fun a ha => ?_)
  refine jK (xY bx 3 (iv 0) 2 ha hS rfl rfl fun w a hS ha => ?_)
  refine jY (jJ (wp_seq (xW 8 14 hS fun w hS => ?_)))
  refine xK 0 21 ha hS (fun _ hw => hw.blk 1 rfl) fun a ha => ?_
  refine jZ (k := 7) [(1, 22, iv f), (2, 23, iv arg), (3, 24, iv fuel), (4, 25, ptr bx 0), (5, 26, ptr bx 0), (6, 27, ptr bx 3)] ha (.inr hS) fun a ha => ?_
  refine qV 7 (d := 28) (b := bx) (j := 3) ha hS (fun _ hw => hw.blk 2 rfl) rfl fun a ha => ?_
  refine jV 8 (qK 29 (vs := [.agg #[.slice s.A s.n s.c], iv f, iv arg, iv fuel, iv 0]) ha (ranFrom_sat hS (hr.sat hS) hask) fun v6 w a hp7 ha => ?_)
  obtain ⟨bm1, rfl, hS⟩ := hp7
  obtain ⟨ms1, hms1, hS⟩ := Sat.openMO hS
  replace hS : Sat w0 w ((MO bm1 s fuel ((runS (PL l) 0 f arg fuel).m.made) ((runS (PL l) 0 f arg fuel).m.shared) ((runS (PL l) 0 f arg fuel).m.depth) ((runS (PL l) 0 f arg fuel).m.deepest) ms1.tr ms1.ow ms1.ca ms1.pa ms1.re ms1.bp ((runS (PL l) 0 f arg fuel).k) ((runS (PL l) 0 f arg fuel).v)) :: (rE ms1.tr ((runS (PL l) 0 f arg fuel).m.trace)) :: (rI ms1.ow ((runS (PL l) 0 f arg fuel).m.owners)) :: (rC ms1.ca ((runS (PL l) 0 f arg fuel).m.calls)) :: (rP ms1.pa ms1.us) :: (qJ (xH ms1.us)) :: (rV ms1.re ((runS (PL l) 0 f arg fuel).m.recs)) :: (yJ ms1.bp (runS (PL l) 0 f arg fuel).m.places) :: (SX.blk b3 [iv 0, iv 0, .slice none 0 0, iv 0] 103) :: (SX.blk b1 [.slice s.A s.n s.c] 35) :: (SX.blk bx [.slice ja.A ja.n ja.c, .slice jh.A jh.n jh.c, .slice os.A os.n os.c, iv 0, iv cd] 83) :: (rI os sy) :: Rs) := hS
  refine qY (jZ (k := 0) [(9, 20, .tuple #[ptr bm1 0, .bool true]), (10, 30, ptr bm1 0), (11, 31, .bool true), (12, 13, ptr bm1 0), (13, 14, .bool true)] ha (.inl (by kernel_rfl)) fun a ha => ?_)
  refine qH ?_
  replace ha := ha.as [(0, ptr bx 0), (12, ptr b3 0), (13, ptr bm1 0)] rfl
  refine jJ (wp_seq (xX 15 19 (hS.pickN 12 [0, 8, 9, 10]) hS fun w hS => ?_))
  refine jZ (k := 14) [(0, 32, ptr bx 0), (1, 33, ptr bx 0), (2, 34, ptr bx 0), (3, 35, ptr bx 0), (4, 36, ptr bx 2)] ha (.inr (hS.pickN 12 [0, 8, 9, 10])) fun a ha => ?_
  refine qV 5 (d := 37) (b := bx) (j := 2) ha (hS.pickN 12 [0, 8, 9, 10]) (fun _ hw => hw.blk 3 rfl) rfl fun a ha => ?_
  refine jZ (k := 9) [(6, 38, ptr bm1 0), (9, 41, ptr bm1 0), (10, 42, ptr bm1 0), (11, 43, ptr bm1 3)] ha (.inr (hS.pickN 12 [0, 8, 9, 10])) fun a ha => ?_
  refine qV 12 (d := 44) (b := bm1) (j := 3) ha (hS.pickN 12 [0, 8, 9, 10]) (fun _ hw => hw.blk 0 rfl) rfl fun a ha => ?_
  replace hS : Sat w0 w ((MO bm1 s fuel ((runS (PL l) 0 f arg fuel).m.made) ((runS (PL l) 0 f arg fuel).m.shared) ((runS (PL l) 0 f arg fuel).m.depth) ((runS (PL l) 0 f arg fuel).m.deepest) ms1.tr ms1.ow ms1.ca ms1.pa ms1.re ms1.bp ((runS (PL l) 0 f arg fuel).k) ((runS (PL l) 0 f arg fuel).v)) :: (rE ms1.tr ((runS (PL l) 0 f arg fuel).m.trace)) :: (rI ms1.ow ((runS (PL l) 0 f arg fuel).m.owners)) :: (rC ms1.ca ((runS (PL l) 0 f arg fuel).m.calls)) :: (rP ms1.pa ms1.us) :: (qJ (xH ms1.us)) :: (rV ms1.re ((runS (PL l) 0 f arg fuel).m.recs)) :: (yJ ms1.bp (runS (PL l) 0 f arg fuel).m.places) :: (SX.blk b3 [iv 0, iv 0, .slice none 0 0, iv 0] 103) :: (SX.blk b1 [.slice s.A s.n s.c] 35) :: (SX.blk bx [.slice ja.A ja.n ja.c, .slice jh.A jh.n jh.c, .slice os.A os.n os.c, iv 0, iv cd] 83) :: (rI os sy) :: Rs) := hS
  have hqy : (saysL (runS (PL l) 0 f arg fuel).m.trace).length ≤ 1000 := Nat.le_trans (saysL_len _) (rs_brief hask)
  refine jV 7 (qK 39 (vs := [ptr bm1 0]) ha (said_sat hS (rs_brief hask)) fun v8 w a hp9 ha => ?_)
  obtain ⟨oq, rfl, hS⟩ := hp9
  refine ⟨.inr (hS.pickN 13 [1, 9, 10, 11]), ?_⟩
  refine jV 8 (o_appI (s2 := oq) (z := iv 0) (bytes := 8) 12 0 ha (by decide) (zV (op := (Op.call { callee := (Callee.builtin Builtin.append), args := #[(Operand.tmp 37), (Operand.tmp 39)], argTypes := #[26, 26] })) (d := some 40) (ty := 26)) rfl rfl (by kernel_rfl) (by kernel_rfl) rfl hS rfl rfl (by first | omega | (simp only [List.length_nil]; omega)) (by decide) fun s10 w a hS ha => ?_)
  refine ⟨.inr (hS.pickN 13 [1, 9, 10, 11]), ?_⟩
  refine jZ (k := 4) [(13, 45, ptr bx 0), (14, 46, ptr bx 2)] ha (.inr (hS.pickN 13 [1, 9, 10, 11])) fun a ha => ?_
  refine jV 15 (xY bx 2 (.slice s10.A s10.n s10.c) 11 ha hS rfl rfl fun w a hS ha => ?_)
  refine qY (jZ (k := 1) [(16, 47, ptr bx 0), (17, 48, ptr bx 3)] ha (.inl (by kernel_rfl)) fun a ha => ?_)
  refine jV 18 (xY bx 3 (iv ((runS (PL l) 0 f arg fuel).m.shared)) 11 ha hS rfl rfl fun w a hS ha => ?_)
  refine qY (qH ?_)
  replace ha := ha.as [(12, ptr b3 0), (13, ptr bm1 0)] rfl
  refine jJ (wp_seq (jX [0, 1, 2, 3, 4] (jQ [(0, 49, ptr bm1 0), (1, 50, ptr bm1 0), (2, 51, ptr bm1 12)] ha fun a ha => ?_)))
  refine yK ((oG ((runS (PL l) 0 f arg fuel).k) ((runS (PL l) 0 f arg fuel).v) ms1.tr ((runS (PL l) 0 f arg fuel).m.made))) ha (v_loadAgg (vs := [iv ((runS (PL l) 0 f arg fuel).k), iv ((runS (PL l) 0 f arg fuel).v), .slice ms1.tr.A ms1.tr.n ms1.tr.c, iv ((runS (PL l) 0 f arg fuel).m.made)]) ha (zZ (t := 103) (x := 51) (d := 52) (ty := 103)) rfl (by kernel_rfl) (fun _ hw => by rw [hw]; exact hS.blk 1 rfl) rfl) fun a ha => ?_
  refine jK (o_sa 9 ha (xJ (t := 103) (x := 12) (y := 52)) hS fun w a hS ha => ?_)
  refine jY (jJ (wp_ret (jH ha (by kernel_rfl) (xU (t := 12) (ty := 103) (i := 9) ha rfl hS rfl (by kernel_rfl)) ?_)))
  replace hS := hS.pickN 13 [11, 12]
  have hR : sR l fuel mode sh f arg = (runS (PL l) 0 f arg fuel) := by unfold sR; rw [if_pos c5]
  rw [hR]
  exact ⟨_, s10, rfl, hS⟩
 refine jW ha rfl (decide_eq_false c5) ?_
 refine wp_skip (jJ (wp_seq (xW 8 14 hS fun w hS => ?_)))
 refine xK 0 21 ha hS (fun _ hw => hw.blk 1 rfl) fun a ha => ?_
 refine jZ (k := 7) [(1, 22, iv f), (2, 23, iv arg), (3, 24, iv fuel), (4, 25, ptr bx 0), (5, 26, ptr bx 0), (6, 27, ptr bx 3)] ha (.inr hS) fun a ha => ?_
 refine qV 7 (d := 28) (b := bx) (j := 3) ha hS (fun _ hw => hw.blk 2 rfl) rfl fun a ha => ?_
 refine jV 8 (qK 29 (vs := [.agg #[.slice s.A s.n s.c], iv f, iv arg, iv fuel, iv sh]) ha (ranFrom_sat hS (hr.sat hS) hask) fun v11 w a hp12 ha => ?_)
 obtain ⟨bm2, rfl, hS⟩ := hp12
 obtain ⟨ms2, hms2, hS⟩ := Sat.openMO hS
 replace hS : Sat w0 w ((MO bm2 s fuel ((runS (PL l) sh f arg fuel).m.made) ((runS (PL l) sh f arg fuel).m.shared) ((runS (PL l) sh f arg fuel).m.depth) ((runS (PL l) sh f arg fuel).m.deepest) ms2.tr ms2.ow ms2.ca ms2.pa ms2.re ms2.bp ((runS (PL l) sh f arg fuel).k) ((runS (PL l) sh f arg fuel).v)) :: (rE ms2.tr ((runS (PL l) sh f arg fuel).m.trace)) :: (rI ms2.ow ((runS (PL l) sh f arg fuel).m.owners)) :: (rC ms2.ca ((runS (PL l) sh f arg fuel).m.calls)) :: (rP ms2.pa ms2.us) :: (qJ (xH ms2.us)) :: (rV ms2.re ((runS (PL l) sh f arg fuel).m.recs)) :: (yJ ms2.bp (runS (PL l) sh f arg fuel).m.places) :: (SX.blk b3 [iv 0, iv 0, .slice none 0 0, iv 0] 103) :: (SX.blk b1 [.slice s.A s.n s.c] 35) :: (SX.blk bx [.slice ja.A ja.n ja.c, .slice jh.A jh.n jh.c, .slice os.A os.n os.c, iv sh, iv cd] 83) :: (rI os sy) :: Rs) := hS
 refine qY (jZ (k := 0) [(9, 20, .tuple #[ptr bm2 0, .bool true]), (10, 30, ptr bm2 0), (11, 31, .bool true), (12, 13, ptr bm2 0), (13, 14, .bool true)] ha (.inl (by kernel_rfl)) fun a ha => ?_)
 refine qH ?_
 replace ha := ha.as [(0, ptr bx 0), (12, ptr b3 0), (13, ptr bm2 0)] rfl
 refine jJ (wp_seq (xX 15 19 (hS.pickN 12 [0, 8, 9, 10]) hS fun w hS => ?_))
 refine jZ (k := 14) [(0, 32, ptr bx 0), (1, 33, ptr bx 0), (2, 34, ptr bx 0), (3, 35, ptr bx 0), (4, 36, ptr bx 2)] ha (.inr (hS.pickN 12 [0, 8, 9, 10])) fun a ha => ?_
 refine qV 5 (d := 37) (b := bx) (j := 2) ha (hS.pickN 12 [0, 8, 9, 10]) (fun _ hw => hw.blk 3 rfl) rfl fun a ha => ?_
 refine jZ (k := 9) [(6, 38, ptr bm2 0), (9, 41, ptr bm2 0), (10, 42, ptr bm2 0), (11, 43, ptr bm2 3)] ha (.inr (hS.pickN 12 [0, 8, 9, 10])) fun a ha => ?_
 refine qV 12 (d := 44) (b := bm2) (j := 3) ha (hS.pickN 12 [0, 8, 9, 10]) (fun _ hw => hw.blk 0 rfl) rfl fun a ha => ?_
 replace hS : Sat w0 w ((MO bm2 s fuel ((runS (PL l) sh f arg fuel).m.made) ((runS (PL l) sh f arg fuel).m.shared) ((runS (PL l) sh f arg fuel).m.depth) ((runS (PL l) sh f arg fuel).m.deepest) ms2.tr ms2.ow ms2.ca ms2.pa ms2.re ms2.bp ((runS (PL l) sh f arg fuel).k) ((runS (PL l) sh f arg fuel).v)) :: (rE ms2.tr ((runS (PL l) sh f arg fuel).m.trace)) :: (rI ms2.ow ((runS (PL l) sh f arg fuel).m.owners)) :: (rC ms2.ca ((runS (PL l) sh f arg fuel).m.calls)) :: (rP ms2.pa ms2.us) :: (qJ (xH ms2.us)) :: (rV ms2.re ((runS (PL l) sh f arg fuel).m.recs)) :: (yJ ms2.bp (runS (PL l) sh f arg fuel).m.places) :: (SX.blk b3 [iv 0, iv 0, .slice none 0 0, iv 0] 103) :: (SX.blk b1 [.slice s.A s.n s.c] 35) :: (SX.blk bx [.slice ja.A ja.n ja.c, .slice jh.A jh.n jh.c, .slice os.A os.n os.c, iv sh, iv cd] 83) :: (rI os sy) :: Rs) := hS
 have hqy : (saysL (runS (PL l) sh f arg fuel).m.trace).length ≤ 1000 := Nat.le_trans (saysL_len _) (rs_brief hask)
 refine jV 7 (qK 39 (vs := [ptr bm2 0]) ha (said_sat hS (rs_brief hask)) fun v13 w a hp14 ha => ?_)
 obtain ⟨oq, rfl, hS⟩ := hp14
 refine ⟨.inr (hS.pickN 13 [1, 9, 10, 11]), ?_⟩
 refine jV 8 (o_appI (s2 := oq) (z := iv 0) (bytes := 8) 12 0 ha (by decide) (zV (op := (Op.call { callee := (Callee.builtin Builtin.append), args := #[(Operand.tmp 37), (Operand.tmp 39)], argTypes := #[26, 26] })) (d := some 40) (ty := 26)) rfl rfl (by kernel_rfl) (by kernel_rfl) rfl hS rfl rfl (by first | omega | (simp only [List.length_nil]; omega)) (by decide) fun s15 w a hS ha => ?_)
 refine ⟨.inr (hS.pickN 13 [1, 9, 10, 11]), ?_⟩
 refine jZ (k := 4) [(13, 45, ptr bx 0), (14, 46, ptr bx 2)] ha (.inr (hS.pickN 13 [1, 9, 10, 11])) fun a ha => ?_
 refine jV 15 (xY bx 2 (.slice s15.A s15.n s15.c) 11 ha hS rfl rfl fun w a hS ha => ?_)
 refine qY (jZ (k := 1) [(16, 47, ptr bx 0), (17, 48, ptr bx 3)] ha (.inl (by kernel_rfl)) fun a ha => ?_)
 refine jV 18 (xY bx 3 (iv ((runS (PL l) sh f arg fuel).m.shared)) 11 ha hS rfl rfl fun w a hS ha => ?_)
 refine qY (qH ?_)
 replace ha := ha.as [(12, ptr b3 0), (13, ptr bm2 0)] rfl
 refine jJ (wp_seq (jX [0, 1, 2, 3, 4] (jQ [(0, 49, ptr bm2 0), (1, 50, ptr bm2 0), (2, 51, ptr bm2 12)] ha fun a ha => ?_)))
 refine yK ((oG ((runS (PL l) sh f arg fuel).k) ((runS (PL l) sh f arg fuel).v) ms2.tr ((runS (PL l) sh f arg fuel).m.made))) ha (v_loadAgg (vs := [iv ((runS (PL l) sh f arg fuel).k), iv ((runS (PL l) sh f arg fuel).v), .slice ms2.tr.A ms2.tr.n ms2.tr.c, iv ((runS (PL l) sh f arg fuel).m.made)]) ha (zZ (t := 103) (x := 51) (d := 52) (ty := 103)) rfl (by kernel_rfl) (fun _ hw => by rw [hw]; exact hS.blk 1 rfl) rfl) fun a ha => ?_
 refine jK (o_sa 9 ha (xJ (t := 103) (x := 12) (y := 52)) hS fun w a hS ha => ?_)
 refine jY (jJ (wp_ret (jH ha (by kernel_rfl) (xU (t := 12) (ty := 103) (i := 9) ha rfl hS rfl (by kernel_rfl)) ?_)))
 replace hS := hS.pickN 13 [11, 12]
 have hR : sR l fuel mode sh f arg = (runS (PL l) sh f arg fuel) := by unfold sR; rw [if_neg c5]
 rw [hR]
 exact ⟨_, s15, rfl, hS⟩
theorem code88 : Try.f88.body = some (Code.seq (cr Try.f88 0 false) (Code.seq (Code.seq (cr Try.f88 1 false) (Code.cond (Operand.tmp 18) (cr Try.f88 2 false) Code.skip)) (Code.seq (cr Try.f88 3 false) (Code.seq (cr Try.f88 4 false) (Code.seq (cr Try.f88 5 true) (Code.seq (cr Try.f88 6 true) Code.ret)))))) := by kernel_rfl
theorem one_sat {w0 w : World} {Rs : List Asn} {s ja jh os : Sl} {l : List (List ST)} {sy : List Int} {f arg fuel mode sh cd : Int} {sj sh_ : Sl} (hS : Sat w0 w (rI os sy :: Rs)) (hr : RdP w0 s l) (hask : askB l f arg fuel = true) (hsl : sy.length ≤ 100000) (hsh : numB sh = true) :
  Calls Try.prog 88 #[.agg #[.slice s.A s.n s.c], .agg #[.slice sj.A sj.n sj.c, .slice sh_.A sh_.n sh_.c, .int .i64 mode], .int .i64 f, .int .i64 arg, .int .i64 fuel, .agg #[.slice ja.A ja.n ja.c, .slice jh.A jh.n jh.c, .slice os.A os.n os.c, .int .i64 cd, .int .i64 sh]] w (Ret fun r w' => ∃ tr o2 : Sl, r = .tuple #[.agg #[.slice ja.A ja.n ja.c, .slice jh.A jh.n jh.c, .slice o2.A o2.n o2.c, .int .i64 cd, .int .i64 (sR l fuel mode sh f arg).m.shared], oG (sR l fuel mode sh f arg).k (sR l fuel mode sh f arg).v tr (sR l fuel mode sh f arg).m.made] ∧ Sat w0 w' (rI o2 (sy ++ saysL (sR l fuel mode sh f arg).m.trace) :: rI os sy :: Rs)) := by
 refine enter (n := 41) Try.func88 code88 (by kernel_rfl) (Nat.le_of_ble_eq_true rfl) (fun a ha => ?_)
 replace ha : Has 41 [(0, .agg #[.slice s.A s.n s.c]), (1, .agg #[.slice sj.A sj.n sj.c, .slice sh_.A sh_.n sh_.c, iv mode]), (2, iv f), (3, iv arg), (4, iv fuel), (5, .agg #[.slice ja.A ja.n ja.c, .slice jh.A jh.n jh.c, .slice os.A os.n os.c, iv cd, iv sh])] a := ha
 refine wp_seq (jX [0, 1, 2, 3, 4] (jK (qX 6 [.slice s.A s.n s.c] 35 (ptr · 0) ha hS fun b1 w a hb2 hS ha => ?_)))
 refine jK (qX 7 [.slice sj.A sj.n sj.c, .slice sh_.A sh_.n sh_.c, iv mode] 39 (ptr · 0) ha hS fun b3 w a hb4 hS ha => ?_)
 refine jK (qX 11 [.slice ja.A ja.n ja.c, .slice jh.A jh.n jh.c, .slice os.A os.n os.c, iv cd, iv sh] 77 (ptr · 0) ha hS fun b5 w a hb6 hS ha => ?_)
 refine jK (qX 12 [.slice none 0 0, .slice none 0 0, .slice none 0 0, iv 0, iv 0] 77 (ptr · 0) ha hS fun b7 w a hb8 hS ha => ?_)
 refine jK (qX 13 [iv 0, iv 0, .slice none 0 0, iv 0] 103 (ptr · 0) ha hS fun b9 w a hb10 hS ha => ?_)
 refine jY (jJ (wp_seq (wp_seq (jX [0, 1, 2] (jQ [(0, 16, ptr b3 2)] ha fun a ha => ?_)))))
 refine jG (d := 17) (b := b3) (j := 2) ha (hS.blk 3 rfl) rfl fun a ha => ?_
 refine jQ [(2, 18, .bool (decide (mode = 3)))] ha fun a ha => ?_
 refine jY (jJ ?_)
 by_cases c11 : mode = 3
 ·
  refine jU ha rfl (decide_eq_true c11) ?_
  refine jX [0, 1] (jQ [(0, 19, ptr b5 4)] ha fun a ha => ?_)
  refine jK (xY b5 4 (iv 0) 2 ha hS rfl rfl fun w a hS ha => ?_)
  refine jY (jJ (wp_seq (jX [0, 1, 2, 3, 4, 5, 6, 7, 8, 9, 10, 11, 12] (yG 21 ha (hS.blk 4 rfl) fun a ha => ?_))))
  refine jQ [(1, 22, iv f), (2, 23, iv arg), (3, 24, iv fuel), (4, 25, ptr b5 4)] ha fun a ha => ?_
  refine jG (d := 26) (b := b5) (j := 4) ha (hS.blk 2 rfl) rfl fun a ha => ?_
  refine jK (qK 27 (vs := [.agg #[.slice s.A s.n s.c], iv f, iv arg, iv fuel, iv 0]) ha (from_sat hS (hr.sat hS) hask rfl) fun v12 w a hp13 ha => ?_)
  obtain ⟨tr1, rfl, hS⟩ := hp13
  refine jQ [(7, 20, .tuple #[(oG ((runS (PL l) 0 f arg fuel).k) ((runS (PL l) 0 f arg fuel).v) tr1 ((runS (PL l) 0 f arg fuel).m.made)), iv ((runS (PL l) 0 f arg fuel).m.shared)]), (8, 28, (oG ((runS (PL l) 0 f arg fuel).k) ((runS (PL l) 0 f arg fuel).v) tr1 ((runS (PL l) 0 f arg fuel).m.made))), (9, 29, iv ((runS (PL l) 0 f arg fuel).m.shared))] ha fun a ha => ?_
  refine jK (qX 14 [iv 0, iv 0, .slice none 0 0, iv 0] 103 (ptr · 0) ha hS fun b14 w a hb15 hS ha => ?_)
  refine jK (o_sa 0 ha (xJ (t := 103) (x := 14) (y := 28)) hS fun w a hS ha => ?_)
  refine jQ [(12, 15, iv ((runS (PL l) 0 f arg fuel).m.shared))] ha fun a ha => ?_
  refine jY ?_
  replace ha := ha.as [(11, ptr b5 0), (12, ptr b7 0), (13, ptr b9 0), (14, ptr b14 0), (15, iv ((runS (PL l) 0 f arg fuel).m.shared))] rfl
  refine jJ (wp_seq (jX [0, 1, 2] (jQ [(0, 30, iv ((runS (PL l) 0 f arg fuel).m.shared)), (1, 31, ptr b5 4)] ha fun a ha => ?_)))
  refine jK (xY b5 4 (iv ((runS (PL l) 0 f arg fuel).m.shared)) 4 ha hS rfl rfl fun w a hS ha => ?_)
  refine jY (jJ (wp_seq (xX 7 8 (hS.pickN 8 [0, 2, 3, 4, 5, 6]) hS fun w hS => ?_)))
  refine jZ (k := 7) [(0, 32, ptr b5 2)] ha (.inr (hS.pickN 8 [0, 2, 3, 4, 5, 6])) fun a ha => ?_
  refine qV 1 (d := 33) (b := b5) (j := 2) ha (hS.pickN 8 [0, 2, 3, 4, 5, 6]) (fun _ hw => hw.blk 3 rfl) rfl fun a ha => ?_
  refine xK 3 35 ha (hS.pickN 8 [0, 2, 3, 4, 5, 6]) (fun _ hw => hw.blk 0 rfl) fun a ha => ?_
  replace hS := hS.pickN 8 [7, 0, 1, 2, 3, 4, 5, 6]
  refine jV 2 (qK 34 (vs := [.slice os.A os.n os.c]) ha (own_sat hS (by omega)) fun v16 w a hp17 ha => ?_)
  obtain ⟨sp1, rfl, hS⟩ := hp17
  refine ⟨.inr (hS.pickN 9 [2, 4, 5, 6, 7, 8]), ?_⟩
  replace hS := hS.pickN 9 [3, 0, 1, 2, 4, 5, 6, 7, 8]
  have hqy : (saysL (runS (PL l) 0 f arg fuel).m.trace).length ≤ 1000 := Nat.le_trans (saysL_len _) (rs_brief hask)
  refine jV 4 (qK 36 (vs := [(oG ((runS (PL l) 0 f arg fuel).k) ((runS (PL l) 0 f arg fuel).v) tr1 ((runS (PL l) 0 f arg fuel).m.made))]) ha (qsays_sat hS (rs_brief hask)) fun v18 w a hp19 ha => ?_)
  obtain ⟨oq, rfl, hS⟩ := hp19
  refine ⟨.inr (hS.pickN 10 [4, 5, 6, 7, 8, 9]), ?_⟩
  refine jV 5 (o_appI (s2 := oq) (z := iv 0) (bytes := 8) 2 0 ha (by decide) (zV (op := (Op.call { callee := (Callee.builtin Builtin.append), args := #[(Operand.tmp 34), (Operand.tmp 36)], argTypes := #[26, 26] })) (d := some 37) (ty := 26)) rfl rfl (by kernel_rfl) (by kernel_rfl) rfl hS rfl rfl (by first | omega | (simp only [List.length_nil]; omega)) (by decide) fun s20 w a hS ha => ?_)
  refine ⟨.inr (hS.pickN 10 [4, 5, 6, 7, 8, 9]), ?_⟩
  refine jZ (k := 1) [(6, 38, ptr b5 2)] ha (.inr (hS.pickN 10 [4, 5, 6, 7, 8, 9])) fun a ha => ?_
  refine jV 7 (xY b5 2 (.slice s20.A s20.n s20.c) 7 ha hS rfl rfl fun w a hS ha => ?_)
  refine qY (qH (jJ (wp_seq (xX 3 4 (hS.pickN 10 [4, 5, 7, 8, 9]) hS fun w hS => ?_))))
  refine xK 0 39 ha (hS.pickN 10 [4, 5, 7, 8, 9]) (fun _ hw => hw.blk 2 rfl) fun a ha => ?_
  refine xK 1 40 ha (hS.pickN 10 [4, 5, 7, 8, 9]) (fun _ hw => hw.blk 0 rfl) fun a ha => ?_
  refine jV 2 (o_sa 6 ha (xJ (t := 77) (x := 12) (y := 39)) hS fun w a hS ha => ?_)
  refine ⟨.inr (hS.pickN 10 [4, 5, 7, 8, 9]), ?_⟩
  refine jV 3 (o_sa 5 ha (xJ (t := 103) (x := 13) (y := 40)) hS fun w a hS ha => ?_)
  refine qY (qH (jJ (wp_ret (zW ha (by kernel_rfl) (xU (t := 12) (ty := 77) (i := 6) ha rfl hS rfl (by kernel_rfl)) (xU (t := 13) (ty := 103) (i := 5) ha rfl hS rfl (by kernel_rfl)) ?_))))
  replace hS := hS.pickN 10 [2, 3]
  have hR : sR l fuel mode sh f arg = (runS (PL l) 0 f arg fuel) := by unfold sR; rw [if_pos c11]
  rw [hR]
  exact ⟨_, s20, rfl, hS⟩
 refine jW ha rfl (decide_eq_false c11) ?_
 refine wp_skip (jJ (wp_seq (jX [0, 1, 2, 3, 4, 5, 6, 7, 8, 9, 10, 11, 12] (yG 21 ha (hS.blk 4 rfl) fun a ha => ?_))))
 refine jQ [(1, 22, iv f), (2, 23, iv arg), (3, 24, iv fuel), (4, 25, ptr b5 4)] ha fun a ha => ?_
 refine jG (d := 26) (b := b5) (j := 4) ha (hS.blk 2 rfl) rfl fun a ha => ?_
 refine jK (qK 27 (vs := [.agg #[.slice s.A s.n s.c], iv f, iv arg, iv fuel, iv sh]) ha (from_sat hS (hr.sat hS) hask hsh) fun v21 w a hp22 ha => ?_)
 obtain ⟨tr2, rfl, hS⟩ := hp22
 refine jQ [(7, 20, .tuple #[(oG ((runS (PL l) sh f arg fuel).k) ((runS (PL l) sh f arg fuel).v) tr2 ((runS (PL l) sh f arg fuel).m.made)), iv ((runS (PL l) sh f arg fuel).m.shared)]), (8, 28, (oG ((runS (PL l) sh f arg fuel).k) ((runS (PL l) sh f arg fuel).v) tr2 ((runS (PL l) sh f arg fuel).m.made))), (9, 29, iv ((runS (PL l) sh f arg fuel).m.shared))] ha fun a ha => ?_
 refine jK (qX 14 [iv 0, iv 0, .slice none 0 0, iv 0] 103 (ptr · 0) ha hS fun b23 w a hb24 hS ha => ?_)
 refine jK (o_sa 0 ha (xJ (t := 103) (x := 14) (y := 28)) hS fun w a hS ha => ?_)
 refine jQ [(12, 15, iv ((runS (PL l) sh f arg fuel).m.shared))] ha fun a ha => ?_
 refine jY (jJ (wp_seq (jX [0, 1, 2] (jQ [(0, 30, iv ((runS (PL l) sh f arg fuel).m.shared)), (1, 31, ptr b5 4)] ha fun a ha => ?_))))
 refine jK (xY b5 4 (iv ((runS (PL l) sh f arg fuel).m.shared)) 4 ha hS rfl rfl fun w a hS ha => ?_)
 refine jY ?_
 replace ha := ha.as [(11, ptr b5 0), (12, ptr b7 0), (13, ptr b9 0), (14, ptr b23 0)] rfl
 refine jJ (wp_seq (xX 7 8 (hS.pickN 8 [0, 2, 3, 4, 5, 6]) hS fun w hS => ?_))
 refine jZ (k := 7) [(0, 32, ptr b5 2)] ha (.inr (hS.pickN 8 [0, 2, 3, 4, 5, 6])) fun a ha => ?_
 refine qV 1 (d := 33) (b := b5) (j := 2) ha (hS.pickN 8 [0, 2, 3, 4, 5, 6]) (fun _ hw => hw.blk 3 rfl) rfl fun a ha => ?_
 refine xK 3 35 ha (hS.pickN 8 [0, 2, 3, 4, 5, 6]) (fun _ hw => hw.blk 0 rfl) fun a ha => ?_
 replace hS := hS.pickN 8 [7, 0, 1, 2, 3, 4, 5, 6]
 refine jV 2 (qK 34 (vs := [.slice os.A os.n os.c]) ha (own_sat hS (by omega)) fun v25 w a hp26 ha => ?_)
 obtain ⟨sp2, rfl, hS⟩ := hp26
 refine ⟨.inr (hS.pickN 9 [2, 4, 5, 6, 7, 8]), ?_⟩
 replace hS := hS.pickN 9 [3, 0, 1, 2, 4, 5, 6, 7, 8]
 have hqy : (saysL (runS (PL l) sh f arg fuel).m.trace).length ≤ 1000 := Nat.le_trans (saysL_len _) (rs_brief hask)
 refine jV 4 (qK 36 (vs := [(oG ((runS (PL l) sh f arg fuel).k) ((runS (PL l) sh f arg fuel).v) tr2 ((runS (PL l) sh f arg fuel).m.made))]) ha (qsays_sat hS (rs_brief hask)) fun v27 w a hp28 ha => ?_)
 obtain ⟨oq, rfl, hS⟩ := hp28
 refine ⟨.inr (hS.pickN 10 [4, 5, 6, 7, 8, 9]), ?_⟩
 refine jV 5 (o_appI (s2 := oq) (z := iv 0) (bytes := 8) 2 0 ha (by decide) (zV (op := (Op.call { callee := (Callee.builtin Builtin.append), args := #[(Operand.tmp 34), (Operand.tmp 36)], argTypes := #[26, 26] })) (d := some 37) (ty := 26)) rfl rfl (by kernel_rfl) (by kernel_rfl) rfl hS rfl rfl (by first | omega | (simp only [List.length_nil]; omega)) (by decide) fun s29 w a hS ha => ?_)
 refine ⟨.inr (hS.pickN 10 [4, 5, 6, 7, 8, 9]), ?_⟩
 refine jZ (k := 1) [(6, 38, ptr b5 2)] ha (.inr (hS.pickN 10 [4, 5, 6, 7, 8, 9])) fun a ha => ?_
 refine jV 7 (xY b5 2 (.slice s29.A s29.n s29.c) 7 ha hS rfl rfl fun w a hS ha => ?_)
 refine qY (qH (jJ (wp_seq (xX 3 4 (hS.pickN 10 [4, 5, 7, 8, 9]) hS fun w hS => ?_))))
 refine xK 0 39 ha (hS.pickN 10 [4, 5, 7, 8, 9]) (fun _ hw => hw.blk 2 rfl) fun a ha => ?_
 refine xK 1 40 ha (hS.pickN 10 [4, 5, 7, 8, 9]) (fun _ hw => hw.blk 0 rfl) fun a ha => ?_
 refine jV 2 (o_sa 6 ha (xJ (t := 77) (x := 12) (y := 39)) hS fun w a hS ha => ?_)
 refine ⟨.inr (hS.pickN 10 [4, 5, 7, 8, 9]), ?_⟩
 refine jV 3 (o_sa 5 ha (xJ (t := 103) (x := 13) (y := 40)) hS fun w a hS ha => ?_)
 refine qY (qH (jJ (wp_ret (zW ha (by kernel_rfl) (xU (t := 12) (ty := 77) (i := 6) ha rfl hS rfl (by kernel_rfl)) (xU (t := 13) (ty := 103) (i := 5) ha rfl hS rfl (by kernel_rfl)) ?_))))
 replace hS := hS.pickN 10 [2, 3]
 have hR : sR l fuel mode sh f arg = (runS (PL l) sh f arg fuel) := by unfold sR; rw [if_neg c11]
 rw [hR]
 exact ⟨_, s29, rfl, hS⟩
theorem sR_k {l : List (List ST)} {fuel mode sh f arg : Int} (h : askB l f arg fuel = true) : (sR l fuel mode sh f arg).k = 1 ∨ (sR l fuel mode sh f arg).k = 2 ∨ (sR l fuel mode sh f arg).k = 3 ∨ (sR l fuel mode sh f arg).k = 4 := by
 have h9 := ask_parts h
 exact runOf_k h9.1 h9.2.1.1 h9.2.1.2 h9.2.2.2
theorem SOk.le {q : SN} {n : Nat} (h : SOk q n) : (0 ≤ q.code ∧ q.code ≤ 255) ∧ q.jobs.length + q.hooks.length ≤ n ∧ q.says.length ≤ 1000 * n := ⟨⟨h.c0, h.c1⟩, h.jl, h.sl⟩
theorem code97 : Try.f97.body = some (Code.seq (cr Try.f97 0 false) (Code.seq (cr Try.f97 1 false) Code.ret)) := by kernel_rfl
theorem backw_sat {w0 w : World} {Rs : List Asn} {o : Sl} (hS : Sat w0 w Rs) :
  Calls Try.prog 97 #[.slice o.A o.n o.c] w (Ret fun r w' => ∃ b9 : Nat, r = .func (.func 128) #[] #[ptr b9 0] ∧ Sat w0 w' (SX.blk b9 [.slice o.A o.n o.c] 26 :: Rs)) := by
 refine enter (n := 4) Try.func97 code97 (by kernel_rfl) (Nat.le_of_ble_eq_true rfl) (fun a ha => ?_)
 replace ha : Has 4 [(0, .slice o.A o.n o.c)] a := ha
 refine wp_seq (jX [0, 1] (jK (qX 1 [.slice o.A o.n o.c] 26 (ptr · 0) ha hS fun b1 w a hb2 hS ha => ?_)))
 refine jQ [(1, 2, Value.nilFunc)] ha fun a ha => ?_
 refine jY (jJ (wp_seq (jX [0, 1] (jQ [(0, 3, .func (.func 128) #[] #[ptr b1 0]), (1, 2, .func (.func 128) #[] #[ptr b1 0])] ha fun a ha => ?_))))
 refine jY (jJ (wp_ret (jH ha (by kernel_rfl) (xZ (t := 2) ha rfl) ?_)))
 exact ⟨b1, rfl, hS⟩
theorem code58 : Try.f58.body = some (Code.seq (cr Try.f58 0 false) (Code.seq (Code.seq (cr Try.f58 1 false) (Code.cond (Operand.tmp 28) (Code.seq (cr Try.f58 2 false) Code.ret) Code.skip)) (Code.seq (cr Try.f58 3 false) (Code.seq (Code.seq (cr Try.f58 4 false) (Code.block 0 (Code.loop (Code.seq (cr Try.f58 5 false) (Code.seq (Code.cond (Operand.tmp 35) Code.skip (Code.exit 0)) (Code.seq (Code.block 1 (Code.seq (cr Try.f58 6 false) (Code.seq (cr Try.f58 7 false) (Code.seq (cr Try.f58 8 true) (Code.seq (cr Try.f58 9 false) (Code.cond (Operand.tmp 67) (Code.exit 0) Code.skip)))))) (cr Try.f58 10 false))))))) (Code.seq (Code.seq (cr Try.f58 11 false) (Code.block 2 (Code.rangeFunc (Operand.tmp 71) #[72, 73] (cr Try.f58 12 false) (Code.block 3 (Code.seq (cr Try.f58 13 false) (Code.seq (cr Try.f58 14 false) (Code.seq (cr Try.f58 15 false) (Code.cond (Operand.tmp 91) (cr Try.f58 16 true) Code.skip)))))))) (Code.seq (cr Try.f58 17 false) Code.ret)))))) := by kernel_rfl
theorem play_sat0 {w0 : World} {s sj sh : Sl} {l : List (List ST)} {js : List (Int × Int)} {hs : List Int} {mode fuel : Int} (hr : RdP w0 s l) (hf : Fits l) (hrj : RdE cellsR 2 w0 sj js) (hrh : RdI w0 sh hs) :
  Calls Try.prog 58 #[.agg #[.slice s.A s.n s.c], .agg #[.slice sj.A sj.n sj.c, .slice sh.A sh.n sh.c, iv mode], iv fuel] w0 (Ret fun r w' => ∃ o1 o2 o3 : Sl, r = .tuple #[.agg #[.slice o1.A o1.n o1.c, .slice o2.A o2.n o2.c, .slice o3.A o3.n o3.c, .int .i64 (playS l js hs mode fuel).shared, .int .i64 (playS l js hs mode fuel).code], .bool (playB l js hs mode fuel)] ∧ Sat w0 w' (rI o1 (playS l js hs mode fuel).jobs :: rI o2 (playS l js hs mode fuel).hooks :: rI o3 (playS l js hs mode fuel).says :: [])) := by
 have hS : Sat w0 w0 [] := Sat.start w0
 have hjn := hrj.len
 have hhn := hrh.len
 have hjb := hrj.big
 have hhb := hrh.big
 refine enterM (n := 99) Try.func58 code58 (by kernel_rfl) (Nat.le_of_ble_eq_true rfl) (fun a ha => ?_)
 replace ha : Has 99 [(0, .agg #[.slice s.A s.n s.c]), (1, .agg #[.slice sj.A sj.n sj.c, .slice sh.A sh.n sh.c, iv mode]), (2, iv fuel)] a := ha
 refine wp_seq ?_
 refine jX [0, 1, 2, 3, 4] ?_
 refine jK (qX 3 [.slice s.A s.n s.c] 35 (ptr · 0) ha hS fun b1 w a hb2 hS ha => ?_)
 refine jK (qX 4 [.slice sj.A sj.n sj.c, .slice sh.A sh.n sh.c, iv mode] 39 (ptr · 0) ha hS fun b3 w a hb4 hS ha => ?_)
 refine jK (qX 5 [iv fuel] 3 (ptr · 0) ha hS fun b5 w a hb6 hS ha => ?_)
 refine jK (qX 6 [.slice none 0 0, .slice none 0 0, .slice none 0 0, iv 0, iv 0] 83 (ptr · 0) ha hS fun b7 w a hb8 hS ha => ?_)
 refine jQ [(4, 7, .bool false)] ha fun a ha => ?_
 refine jY ?_
 refine jJ ?_
 refine wp_seq ?_
 refine wp_seq ?_
 refine jX [0, 1, 2, 3, 4, 5, 6, 7, 8, 9, 10, 11, 12, 13] ?_
 refine yG 15 ha (hS.blk 3 rfl) fun a ha => ?_
 refine jK (qK 16 (vs := [.agg #[.slice s.A s.n s.c]]) ha (ipr_sat hS (hr.sat hS)) fun v9 w a hp10 ha => ?_)
 obtain ⟨rfl, hS⟩ := hp10
 refine jQ [(2, 17, .bool (!((programB l)))), (3, 18, .bool (!((programB l))))] ha fun a ha => ?_
 rcases Bool.eq_false_or_eq_true (programB l) with c11 | c11
 ·
  replace ha := ha.turn 16 (.bool true) rfl (congrArg Value.bool c11)
  replace ha := ha.turn 17 (.bool false) rfl (congrArg Value.bool (yX c11))
  replace ha := ha.turn 18 (.bool false) rfl (congrArg Value.bool (yX c11))
  refine yG 19 ha (hS.blk 3 rfl) fun a ha => ?_
  refine yG 20 ha (hS.blk 2 rfl) fun a ha => ?_
  refine jK (qK 21 (vs := [.agg #[.slice s.A s.n s.c], .agg #[.slice sj.A sj.n sj.c, .slice sh.A sh.n sh.c, iv mode]]) ha (isS_sat hS (hr.sat hS) hf (hrj.sat hS) (hrh.sat hS)) fun v12 w a hp13 ha => ?_)
  obtain ⟨rfl, hS⟩ := hp13
  refine jQ [(7, 22, .bool (!((sessB l js hs mode)))), (8, 23, .bool (!((sessB l js hs mode)))), (9, 24, .bool (!((sessB l js hs mode))))] ha fun a ha => ?_
  rcases Bool.eq_false_or_eq_true (sessB l js hs mode) with c14 | c14
  ·
   replace ha := ha.turn 21 (.bool true) rfl (congrArg Value.bool c14);replace ha := ha.turn 22 (.bool false) rfl (congrArg Value.bool (yX c14));replace ha := ha.turn 23 (.bool false) rfl (congrArg Value.bool (yX c14));replace ha := ha.turn 24 (.bool false) rfl (congrArg Value.bool (yX c14));refine jG (d := 25) (b := b5) (j := 0) ha (hS.blk 1 rfl) rfl fun a ha => ?_;refine jK (qK 26 (vs := [iv fuel, iv 0, iv 200]) ha (in_sat hS _ _ _) fun v15 w a hp16 ha => ?_);obtain ⟨rfl, hS⟩ := hp16;refine jQ [(12, 27, .bool (!((inB fuel 0 200)))), (13, 28, .bool (!((inB fuel 0 200))))] ha fun a ha => ?_;refine jY ?_;refine jJ ?_
   rcases Bool.eq_false_or_eq_true (inB fuel 0 200) with c17 | c17
   ·
    have hP : playB l js hs mode fuel = true := by unfold playB; simp [c11, c14, c17]
    obtain ⟨hj12, hh12, hmo, -, -⟩ := sess_parts (play_parts hP).2.1;refine jW ha rfl (yX c17) ?_;refine wp_skip ?_;refine jJ ?_;refine wp_seq ?_;refine jX [0, 1, 2] ?_;refine jQ [(0, 30, .agg #[.slice none 0 0, .slice none 0 0, .slice none 0 0, iv 0, iv 0])] ha fun a ha => ?_;refine jK (qX 8 [.slice none 0 0, .slice none 0 0, .slice none 0 0, iv 0, iv 0] 83 (ptr · 0) ha hS fun b18 w a hb19 hS ha => ?_);refine jK (o_sa 0 ha (xJ (t := 83) (x := 8) (y := 30)) hS fun w a hS ha => ?_);refine jY ?_;refine jJ ?_;refine wp_seq ?_;refine wp_seq ?_;refine jX [0, 1, 2, 3] ?_;refine jQ [(0, 31, ptr b3 0)] ha fun a ha => ?_;refine jG (d := 32) (b := b3) (j := 0) ha (hS.blk 3 rfl) rfl fun a ha => ?_;refine jQ [(2, 33, iv (sj.n : Int)), (3, 34, iv 0)] ha fun a ha => ?_;refine jY ?_;refine jJ ?_;refine kK (J := fun a_ w_ => ∃ (jb : List Int) (sy : List Int) (cd : Int) (shd : Int) (oj : Sl) (os : Sl), ((⟨jb, [], sy, cd, shd⟩ : SN) = sJobs l fuel mode js s0) ∧ (SOk (⟨jb, [], sy, cd, shd⟩ : SN) 12) ∧ Has 99 [(3, ptr b1 0), (4, ptr b3 0), (5, ptr b5 0), (6, ptr b7 0), (7, .bool false), (8, ptr b18 0)] a_ ∧ Sat w0 w_ ((SX.blk b18 [.slice oj.A oj.n oj.c, .slice none 0 0, .slice os.A os.n os.c, iv shd, iv cd] 83) :: (rI oj jb) :: (rI os sy) :: (SX.blk b1 [.slice s.A s.n s.c] 35) :: (SX.blk b3 [.slice sj.A sj.n sj.c, .slice sh.A sh.n sh.c, iv mode] 39) :: (SX.blk b5 [iv fuel] 3) :: (SX.blk b7 [.slice none 0 0, .slice none 0 0, .slice none 0 0, iv 0, iv 0] 83) :: [])) ?_ ?_
    ·
     refine wp_block ?_;replace hS := hS.pickN 5 [0, 4, 3, 2, 1];replace hS := (Sat.nilRow (T := 3) (sz := 1) (Sat.nilRow (T := 3) (sz := 1) hS)).pickN 7 [2, 0, 1, 3, 4, 5, 6];refine wp_loop_ghost (fun n_ a_ w_ => ∃ (i : Nat) (jb : List Int) (sy : List Int) (cd : Int) (shd : Int) (oj : Sl) (os : Sl), n_ = js.length - i ∧ (i ≤ js.length) ∧ (sJobs l fuel mode (js.drop i) (⟨jb, [], sy, cd, shd⟩ : SN) = sJobs l fuel mode js s0) ∧ (SOk (⟨jb, [], sy, cd, shd⟩ : SN) i) ∧ Has 99 [(3, ptr b1 0), (4, ptr b3 0), (5, ptr b5 0), (6, ptr b7 0), (7, .bool false), (8, ptr b18 0), (32, .slice sj.A sj.n sj.c), (33, iv (sj.n : Int)), (34, iv (i : Int))] a_ ∧ Sat w0 w_ ((SX.blk b18 [.slice oj.A oj.n oj.c, .slice none 0 0, .slice os.A os.n os.c, iv shd, iv cd] 83) :: (rI oj jb) :: (rI os sy) :: (SX.blk b1 [.slice s.A s.n s.c] 35) :: (SX.blk b3 [.slice sj.A sj.n sj.c, .slice sh.A sh.n sh.c, iv mode] 39) :: (SX.blk b5 [iv fuel] 3) :: (SX.blk b7 [.slice none 0 0, .slice none 0 0, .slice none 0 0, iv 0, iv 0] 83) :: [])) _ ⟨0, [], [], 0, 0, ⟨none, 0, 0⟩, ⟨none, 0, 0⟩, rfl, Nat.zero_le _, rfl, SOk.s0, ha.keeps [3, 4, 5, 6, 7, 8, 32, 33, 34] _ rfl, hS⟩ ?_
     -- the loop's round
     rintro n_ a w ⟨i, jb, sy, cd, shd, oj, os, rfl, hi, hq, hok, ha, hS⟩
     have hb9 := hok.le
     dsimp only at hb9
     refine wp_seq ?_;refine jX [0] ?_;refine jQ [(0, 35, .bool (decide ((i : Int) < (sj.n : Int))))] ha fun a ha => ?_;refine jY ?_;refine jJ ?_;refine wp_seq ?_
     by_cases c20 : (i : Int) < (sj.n : Int)
     ·
      have hlt : i < js.length := by omega
      obtain ⟨x9, hx9⟩ : ∃ x, js[i]? = some x := ⟨_, List.getElem?_eq_getElem hlt⟩;have hask1 := play_job hP hx9;refine jU ha rfl (decide_eq_true c20) ?_;refine wp_skip ?_;refine jJ ?_;refine wp_seq ?_;refine wp_block ?_;refine wp_seq ?_;refine jX [0, 1, 2, 3] ?_;refine yK (.pointer (some ⟨bk sj, of_ sj + i * 2, none⟩)) ha (kX (el := 131) (sz := 2) (j := i) ha (yW (t := 37) (x := 32) (y := 34) (d := 36)) rfl rfl (by kernel_rfl) (by kernel_rfl) (RdE.at_ (hrj.sat hS) _ _ hx9).1 (rfl) (by rw [((hrj.sat hS)).len]; exact (List.getElem?_eq_some_iff.1 hx9).1)) fun a ha => ?_;refine yK (.agg #[iv x9.1, iv x9.2]) ha (v_loadE (b := bk sj) (f := of_ sj + i * 2) (vs := [iv x9.1, iv x9.2]) ha (zZ (t := 131) (x := 36) (d := 37) (ty := 131)) rfl (by kernel_rfl) (fun w' hw o u hu => by rw [hw]; exact (RdE.at_ (hrj.sat hS) _ _ hx9).2 o u hu)) fun a ha => ?_;refine jK (qX 10 [iv 0, iv 0] 131 (ptr · 0) ha hS fun b21 w a hb22 hS ha => ?_);refine jK (o_sa 0 ha (xJ (t := 131) (x := 10) (y := 37)) hS fun w a hS ha => ?_);refine jY ?_;refine jJ ?_;refine wp_seq ?_;refine jX [0, 1, 2, 3, 4, 5, 6, 7, 8, 9, 10] ?_;refine yG 38 ha (hS.blk 4 rfl) fun a ha => ?_;refine jQ [(1, 39, ptr b21 0)] ha fun a ha => ?_;refine jG (d := 40) (b := b21) (j := 0) ha (hS.blk 0 rfl) rfl fun a ha => ?_;refine jQ [(3, 41, ptr b21 1)] ha fun a ha => ?_;refine jG (d := 42) (b := b21) (j := 1) ha (hS.blk 0 rfl) rfl fun a ha => ?_;refine jG (d := 43) (b := b5) (j := 0) ha (hS.blk 6 rfl) rfl fun a ha => ?_;refine jQ [(6, 44, ptr b3 2)] ha fun a ha => ?_;refine jG (d := 45) (b := b3) (j := 2) ha (hS.blk 5 rfl) rfl fun a ha => ?_;replace hS := hS.pickN 8 [1, 3, 0, 2, 4, 5, 6, 7];refine jK (qK 46 (vs := [ptr b18 0, .agg #[.slice s.A s.n s.c], iv x9.1, iv x9.2, iv fuel, iv mode]) ha (prun_sat (jh := ⟨none, 0, 0⟩) hS hr hask1 (by omega)) fun v23 w a hp24 ha => ?_);obtain ⟨tr1, sp1, rfl, hS⟩ := hp24;refine jK (qX 11 [iv 0, iv 0, .slice none 0 0, iv 0] 103 (ptr · 0) ha hS fun b25 w a hb26 hS ha => ?_);refine jK (o_sa 0 ha (xJ (t := 103) (x := 11) (y := 46)) hS fun w a hS ha => ?_);refine jY ?_;replace ha := ha.as [(3, ptr b1 0), (4, ptr b3 0), (5, ptr b5 0), (6, ptr b7 0), (7, .bool false), (8, ptr b18 0), (32, .slice sj.A sj.n sj.c), (33, iv (sj.n : Int)), (34, iv (i : Int)), (11, ptr b25 0)] rfl;refine jJ ?_;refine wp_seq ?_;refine xX 12 15 (hS.pickN 9 [0, 1, 3, 5, 6, 7, 8]) hS fun w hS => ?_;refine jZ (k := 14) [(0, 47, ptr b18 0)] ha (.inr (hS.pickN 9 [0, 1, 3, 5, 6, 7, 8])) fun a ha => ?_;refine qV 1 (d := 48) (b := b18) (j := 0) ha (hS.pickN 9 [0, 1, 3, 5, 6, 7, 8]) (fun _ hw => hw.blk 1 rfl) rfl fun a ha => ?_;refine jZ (k := 12) [(2, 49, ptr b25 0)] ha (.inr (hS.pickN 9 [0, 1, 3, 5, 6, 7, 8])) fun a ha => ?_;refine qV 3 (d := 50) (b := b25) (j := 0) ha (hS.pickN 9 [0, 1, 3, 5, 6, 7, 8]) (fun _ hw => hw.blk 0 rfl) rfl fun a ha => ?_;refine jZ (k := 10) [(6, 53, ptr b18 4)] ha (.inr (hS.pickN 9 [0, 1, 3, 5, 6, 7, 8])) fun a ha => ?_;refine qV 7 (d := 54) (b := b18) (j := 4) ha (hS.pickN 9 [0, 1, 3, 5, 6, 7, 8]) (fun _ hw => hw.blk 1 rfl) rfl fun a ha => ?_
      refine d_valN (i := 8) ha (by decide) (hZ ha (zZ (t := 103) (x := 11) (d := 55) (ty := 103)) rfl (by kernel_rfl) (fun _ hw => hw.blk 0 rfl)) (hS.pickN 9 [0, 1, 3, 5, 6, 7, 8]) (by kernel_rfl) (by kernel_rfl) (kZ (kW (kZ (kZ (kW (pk_join (pk_bodyM))))))) fun a ha => ?_;refine jV 4 (qX 51 [iv ((sR l fuel mode shd x9.1 x9.2).k)] 3 (fun b => .slice (some ⟨b, 0, none⟩) 1 1) ha hS fun b27 w a hb28 hS ha => ?_);refine ⟨.inr (hS.pickN 10 [1, 2, 4, 6, 7, 8, 9]), ?_⟩;refine jV 5 (o_ap 52 5 0 (encI (jb ++ [(sR l fuel mode shd x9.1 x9.2).k])) ha hS rfl rfl (by rw [encI_length]; simp only [List.length_cons, List.length_nil]; omega) (encI_snoc _ _) fun s32 w a hS hn33 ha => ?_);refine ⟨.inr (hS.pickN 10 [1, 2, 4, 6, 7, 8, 9]), ?_⟩;have hcl := codeOf_le ((sR l fuel mode shd x9.1 x9.2).k) ((sR l fuel mode shd x9.1 x9.2).v);refine jV 9 (qK 56 (vs := [(oG ((sR l fuel mode shd x9.1 x9.2).k) ((sR l fuel mode shd x9.1 x9.2).v) tr1 ((sR l fuel mode shd x9.1 x9.2).m.made))]) ha (outCode_sat hS (sR_k hask1)) fun v34 w a hp35 ha => ?_);obtain ⟨rfl, hS⟩ := hp35;refine ⟨.inr (hS.pickN 10 [1, 2, 4, 6, 7, 8, 9]), ?_⟩;refine yZ 10 (iv (max cd (codeOf ((sR l fuel mode shd x9.1 x9.2).k) ((sR l fuel mode shd x9.1 x9.2).v)))) ha ((qG (v := .int .i64 (if cd < (codeOf ((sR l fuel mode shd x9.1 x9.2).k) ((sR l fuel mode shd x9.1 x9.2).v)) then (codeOf ((sR l fuel mode shd x9.1 x9.2).k) ((sR l fuel mode shd x9.1 x9.2).v)) else cd)) ha (zV (op := (Op.call { callee := (Callee.builtin Builtin.max), args := #[(Operand.tmp 54), (Operand.tmp 56)], argTypes := #[3, 3] })) (d := some 57) (ty := 3)) (by kernel_rfl) (fun _ => by kernel_rfl)).as (by congr 1; omega)) (.inr (hS.pickN 10 [1, 2, 4, 6, 7, 8, 9])) fun a ha => ?_;refine jZ (k := 3) [(11, 58, ptr b18 0)] ha (.inr (hS.pickN 10 [1, 2, 4, 6, 7, 8, 9])) fun a ha => ?_;refine jV 12 (xY b18 0 (.slice s32.A s32.n s32.c) 2 ha hS rfl rfl fun w a hS ha => ?_);refine qY ?_;refine jZ (k := 1) [(13, 59, ptr b18 4)] ha (.inl (by kernel_rfl)) fun a ha => ?_;refine jV 14 (xY b18 4 (iv (max cd (codeOf ((sR l fuel mode shd x9.1 x9.2).k) ((sR l fuel mode shd x9.1 x9.2).v)))) 2 ha hS rfl rfl fun w a hS ha => ?_);refine qY ?_;refine qH ?_;refine jJ ?_;refine wp_seq ?_;refine jX [0, 1, 2, 3, 4, 5, 6, 7] ?_;refine jQ [(0, 60, ptr b3 2)] ha fun a ha => ?_;refine jG (d := 61) (b := b3) (j := 2) ha (hS.blk 7 rfl) rfl fun a ha => ?_;refine jQ [(2, 62, .bool (decide (mode = 2))), (3, 63, .bool (decide (mode = 2)))] ha fun a ha => ?_
      by_cases c36 : mode = 2
      ·
       replace ha := ha.turn 62 (.bool true) rfl (congrArg Value.bool (decide_eq_true c36));replace ha := ha.turn 63 (.bool true) rfl (congrArg Value.bool (decide_eq_true c36));refine jQ [(4, 64, ptr b25 0)] ha fun a ha => ?_;refine jG (d := 65) (b := b25) (j := 0) ha (hS.blk 1 rfl) rfl fun a ha => ?_;refine jQ [(6, 66, .bool (!(decide (((sR l fuel mode shd x9.1 x9.2).k) = 1)))), (7, 67, .bool (!(decide (((sR l fuel mode shd x9.1 x9.2).k) = 1))))] ha fun a ha => ?_;refine jY ?_;replace ha := ha.as [(3, ptr b1 0), (4, ptr b3 0), (5, ptr b5 0), (6, ptr b7 0), (7, .bool false), (8, ptr b18 0), (32, .slice sj.A sj.n sj.c), (33, iv (sj.n : Int)), (34, iv (i : Int)), (67, .bool (!(decide (((sR l fuel mode shd x9.1 x9.2).k) = 1))))] rfl;refine jJ ?_
       by_cases c37 : ((sR l fuel mode shd x9.1 x9.2).k) = 1
       ·
        refine jW ha rfl (yX (decide_eq_true c37)) ?_;refine wp_skip ?_;refine in_n ?_;refine jJ ?_;refine jX [0, 1] ?_;refine zX 68 ((i : Int) + 1) ha fun a ha => ?_;refine jQ [(1, 34, iv ((i : Int) + 1))] ha fun a ha => ?_;refine jY ?_;refine jJ ?_;replace hS := hS.pickN 10 [2, 5, 3, 6, 7, 8, 9];exact ⟨_, by omega, i + 1, (jb ++ [(sR l fuel mode shd x9.1 x9.2).k]), (sy ++ saysL (sR l fuel mode shd x9.1 x9.2).m.trace), (max cd (codeOf ((sR l fuel mode shd x9.1 x9.2).k) ((sR l fuel mode shd x9.1 x9.2).v))), ((sR l fuel mode shd x9.1 x9.2).m.shared), s32, sp1, rfl, by omega, sJobs_next hx9 hq (fun h => h.2 c37), hok.job hask1, ha.keeps [3, 4, 5, 6, 7, 8, 32, 33, 34] _ rfl, hS⟩
       ·
        refine jU ha rfl (zY (decide_eq_false c37)) ?_;refine wp_exit ?_;refine in_xo (by decide) ?_;refine xV ?_;refine xV ?_;refine in_x ?_;replace hS := hS.pickN 10 [2, 5, 3, 6, 7, 8, 9];exact jJ ⟨(jb ++ [(sR l fuel mode shd x9.1 x9.2).k]), (sy ++ saysL (sR l fuel mode shd x9.1 x9.2).m.trace), (max cd (codeOf ((sR l fuel mode shd x9.1 x9.2).k) ((sR l fuel mode shd x9.1 x9.2).v))), ((sR l fuel mode shd x9.1 x9.2).m.shared), s32, sp1, sJobs_stop hx9 hq ⟨c36, c37⟩, (hok.job hask1).mono (by omega), ha.keeps [3, 4, 5, 6, 7, 8] _ rfl, hS⟩
      ·
       replace ha := ha.turn 62 (.bool false) rfl (congrArg Value.bool (decide_eq_false c36));replace ha := ha.turn 63 (.bool false) rfl (congrArg Value.bool (decide_eq_false c36));refine jQ [(4, 64, undef), (5, 65, undef), (6, 66, undef), (7, 67, .bool false)] ha fun a ha => ?_;refine jY ?_;replace ha := ha.as [(3, ptr b1 0), (4, ptr b3 0), (5, ptr b5 0), (6, ptr b7 0), (7, .bool false), (8, ptr b18 0), (32, .slice sj.A sj.n sj.c), (33, iv (sj.n : Int)), (34, iv (i : Int)), (67, .bool false)] rfl;refine jJ ?_;refine jW ha rfl rfl ?_;refine wp_skip ?_;refine in_n ?_;refine jJ ?_;refine jX [0, 1] ?_;refine zX 68 ((i : Int) + 1) ha fun a ha => ?_;refine jQ [(1, 34, iv ((i : Int) + 1))] ha fun a ha => ?_;refine jY ?_;refine jJ ?_;replace hS := hS.pickN 10 [2, 5, 3, 6, 7, 8, 9];exact ⟨_, by omega, i + 1, (jb ++ [(sR l fuel mode shd x9.1 x9.2).k]), (sy ++ saysL (sR l fuel mode shd x9.1 x9.2).m.trace), (max cd (codeOf ((sR l fuel mode shd x9.1 x9.2).k) ((sR l fuel mode shd x9.1 x9.2).v))), ((sR l fuel mode shd x9.1 x9.2).m.shared), s32, sp1, rfl, by omega, sJobs_next hx9 hq (fun h => c36 h.1), hok.job hask1, ha.keeps [3, 4, 5, 6, 7, 8, 32, 33, 34] _ rfl, hS⟩
     ·
      refine jW ha rfl (decide_eq_false c20) ?_;refine wp_exit ?_;refine xV ?_;refine xV ?_;refine in_x ?_;replace hS : Sat w0 w ((SX.blk b18 [.slice oj.A oj.n oj.c, .slice none 0 0, .slice os.A os.n os.c, iv shd, iv cd] 83) :: (rI oj jb) :: (rI os sy) :: (SX.blk b1 [.slice s.A s.n s.c] 35) :: (SX.blk b3 [.slice sj.A sj.n sj.c, .slice sh.A sh.n sh.c, iv mode] 39) :: (SX.blk b5 [iv fuel] 3) :: (SX.blk b7 [.slice none 0 0, .slice none 0 0, .slice none 0 0, iv 0, iv 0] 83) :: []) := hS;exact jJ ⟨jb, sy, cd, shd, oj, os, sJobs_end (by omega) hq, hok.mono (by omega), ha.keeps [3, 4, 5, 6, 7, 8] _ rfl, hS⟩
    ·
     rintro a w ⟨jb, sy, cd, shd, oj, os, hJ, hok, ha, hS⟩
     have hb9 := hok.le
     dsimp only at hb9
     refine wp_seq ?_;refine wp_seq ?_;refine jX [0, 1, 2] ?_;refine jQ [(0, 69, ptr b3 1)] ha fun a ha => ?_;refine jG (d := 70) (b := b3) (j := 1) ha (hS.blk 4 rfl) rfl fun a ha => ?_;refine jK (qK 71 (vs := [.slice sh.A sh.n sh.c]) ha (backw_sat hS) fun v38 w a hp39 ha => ?_);obtain ⟨b9, rfl, hS⟩ := hp39;refine jY ?_;refine jJ ?_;refine wp_block ?_;replace hS := hS.pickN 8 [1, 2, 3, 0, 4, 5, 6, 7];replace hS := (Sat.nilRow (T := 3) (sz := 1) hS).pickN 9 [1, 2, 0, 3, 4, 5, 6, 7, 8];refine c_range (J := fun (pre : List (At2 hs)) Rs_ => ∃ (hk : List Int) (sy2 : List Int) (cd2 : Int) (sh2 : Int) (oh : Sl) (os2 : Sl), ((⟨jb, hk, sy2, cd2, sh2⟩ : SN) = sHooks l fuel mode ((pre).map Subtype.val) (⟨jb, [], sy, cd, shd⟩ : SN)) ∧ (SOk (⟨jb, hk, sy2, cd2, sh2⟩ : SN) (12 + (pre).length)) ∧ Rs_ = ((SX.blk b18 [.slice oj.A oj.n oj.c, .slice oh.A oh.n oh.c, .slice os2.A os2.n os2.c, iv sh2, iv cd2] 83) :: (rI oj jb) :: (rI oh hk) :: (rI os2 sy2) :: (SX.blk b9 [.slice sh.A sh.n sh.c] 26) :: (SX.blk b1 [.slice s.A s.n s.c] 35) :: (SX.blk b3 [.slice sj.A sj.n sj.c, .slice sh.A sh.n sh.c, iv mode] 39) :: (SX.blk b5 [iv fuel] 3) :: (SX.blk b7 [.slice none 0 0, .slice none 0 0, .slice none 0 0, iv 0, iv 0] 83) :: [])) (f1 := fun x : At2 hs => iv (x.1.1 : Int)) (f2 := fun x : At2 hs => iv x.1.2) (ex := fun x : At2 hs => [(13, iv x.1.2), (3, ptr b1 0), (4, ptr b3 0), (5, ptr b5 0), (6, ptr b7 0), (7, .bool false), (8, ptr b18 0)]) ha rfl (enters_of Try.func128 (by kernel_rfl) rfl) rfl ⟨[], sy, cd, shd, ⟨none, 0, 0⟩, os, rfl, hok, rfl⟩ hS (fun pre Rs_ hJ R hR => by obtain ⟨hk, sy2, cd2, sh2, oh, os2, hq2, hok2, rfl⟩ := hJ; simp only [List.mem_cons, List.not_mem_nil, or_false] at hR; rcases hR with rfl | rfl | rfl | rfl | rfl | rfl | rfl | rfl | rfl <;> first | exact cellar_blk | exact cellar_row) (back_satR (s := sh) (zs := hs) hS 4 rfl hrh (by omega)) (fun pre Rs_ A B hJ hS => by obtain ⟨hk, sy2, cd2, sh2, oh, os2, hq2, hok2, rfl⟩ := hJ; exact KpB.satR (s := sh) (zs := hs) hS 4 rfl hrh) KpB.trans KpB.refl (fun W l o o' _ h ho _ => KpB.put W l o o' h ho) ?_ ?_ ?_
     ·
      rintro _ x a w K ha hK
      refine r_begin [0] (no_asg) ?_;refine jQ [(0, 13, iv x.1.2)] ha fun a ha => ?_;refine jY ?_;exact hK _ (ha.keeps [13, 3, 4, 5, 6, 7, 8] _ rfl)
     ·
      rintro _ pre ⟨⟨j, v⟩, hjv⟩ a w X _ hN ⟨hk, sy2, cd2, sh2, oh, os2, hq2, hok2, rfl⟩ hS ha
      replace ha : Has 99 [(13, iv v), (3, ptr b1 0), (4, ptr b3 0), (5, ptr b5 0), (6, ptr b7 0), (7, .bool false), (8, ptr b18 0)] a := ha;have hb8 := hok2.le
      dsimp only at hb8
      have hask9 := play_hook hP hjv hb8.1.1 hb8.1.2;refine wpIn_block ?_;refine wpIn_seq ?_;refine r_begin [0, 1, 2, 3, 4, 5, 6, 7, 8, 9] (no_then (no_in (no_rnd))) ?_;refine yG 74 ha (hS.blk 6 rfl) fun a ha => ?_;refine jQ [(1, 75, iv v), (2, 76, ptr b18 4)] ha fun a ha => ?_;refine jG (d := 77) (b := b18) (j := 4) ha (hS.blk 1 rfl) rfl fun a ha => ?_;refine jG (d := 78) (b := b5) (j := 0) ha (hS.blk 8 rfl) rfl fun a ha => ?_;refine jQ [(5, 79, ptr b3 2)] ha fun a ha => ?_;refine jG (d := 80) (b := b3) (j := 2) ha (hS.blk 7 rfl) rfl fun a ha => ?_;replace hS := hS.pickN 10 [1, 4, 0, 2, 3, 5, 6, 7, 8, 9];refine jK (qK 81 (vs := [ptr b18 0, .agg #[.slice s.A s.n s.c], iv v, iv cd2, iv fuel, iv mode]) ha (prun_sat hS hr hask9 (by omega)) fun v40 w a hp41 ha => ?_);obtain ⟨tr2, sp2, rfl, hS⟩ := hp41;refine jK (qX 14 [iv 0, iv 0, .slice none 0 0, iv 0] 103 (ptr · 0) ha hS fun b42 w a hb43 hS ha => ?_);refine jK (o_sa 0 ha (xJ (t := 103) (x := 14) (y := 81)) hS fun w a hS ha => ?_);refine jY ?_;refine jJ ?_;refine wpIn_seq ?_;refine r_begin [0, 1, 2, 3, 4, 5, 6, 7] (no_then (no_in (no_rnd))) ?_;refine jQ [(0, 82, ptr b18 1)] ha fun a ha => ?_;refine jG (d := 83) (b := b18) (j := 1) ha (hS.blk 1 rfl) rfl fun a ha => ?_;refine jQ [(2, 84, ptr b42 0)] ha fun a ha => ?_;refine jG (d := 85) (b := b42) (j := 0) ha (hS.blk 0 rfl) rfl fun a ha => ?_;refine jK (qX 86 [iv ((sR l fuel mode sh2 v cd2).k)] 3 (fun b => .slice (some ⟨b, 0, none⟩) 1 1) ha hS fun b44 w a hb45 hS ha => ?_);refine jK (o_ap 87 6 0 (encI (hk ++ [(sR l fuel mode sh2 v cd2).k])) ha hS rfl rfl (by rw [encI_length]; simp only [List.length_cons, List.length_nil]; omega) (encI_snoc _ _) fun s49 w a hS hn50 ha => ?_);refine jQ [(6, 88, ptr b18 1)] ha fun a ha => ?_;refine jK (xY b18 1 (.slice s49.A s49.n s49.c) 2 ha hS rfl rfl fun w a hS ha => ?_);refine jY ?_;refine jJ ?_;refine wpIn_seq ?_;refine r_begin [0, 1, 2] (no_then (no_in (no_rnd))) ?_;refine jQ [(0, 89, ptr b42 0)] ha fun a ha => ?_;refine jG (d := 90) (b := b42) (j := 0) ha (hS.blk 1 rfl) rfl fun a ha => ?_;refine jQ [(2, 91, .bool (!(decide (((sR l fuel mode sh2 v cd2).k) = 1))))] ha fun a ha => ?_;refine jY ?_;refine jJ ?_
      by_cases c51 : ((sR l fuel mode sh2 v cd2).k) = 1
      ·
       refine r_false ha rfl (yX (decide_eq_true c51)) ?_;refine wpIn_skip ?_;refine in_n ?_;replace hS := hS.pickN 12 [4, 2, 5, 6, 3, 7, 8, 9, 10, 11];have hE9 : (⟨jb, (hk ++ [(sR l fuel mode sh2 v cd2).k]), (sy2 ++ saysL (sR l fuel mode sh2 v cd2).m.trace), cd2, (sR l fuel mode sh2 v cd2).m.shared⟩ : SN) = sHook l fuel mode (⟨jb, hk, sy2, cd2, sh2⟩ : SN) v := by simp only [sHook]; rw [if_pos c51]
       exact ⟨_, ⟨(hk ++ [(sR l fuel mode sh2 v cd2).k]), (sy2 ++ saysL (sR l fuel mode sh2 v cd2).m.trace), cd2, ((sR l fuel mode sh2 v cd2).m.shared), s49, sp2, by rw [List.map_append, show List.map Subtype.val [(⟨(j, v), hjv⟩ : At2 hs)] = [(j, v)] from rfl, sHooks_app, ← hq2]; exact hE9, by rw [hE9, List.length_append]; exact hok2.hook hask9, rfl⟩, hS⟩
      ·
       refine r_true ha rfl (zY (decide_eq_false c51)) ?_;refine r_startP 6 7 (no_in (no_rnd)) (hS.pickN 12 [0, 1, 2, 7, 8, 9, 10, 11]) hS fun w hS => ?_;refine jZ (k := 6) [(0, 92, ptr b18 4)] ha (.inr (hS.pickN 12 [0, 1, 2, 7, 8, 9, 10, 11])) fun a ha => ?_;refine qV 1 (d := 93) (b := b18) (j := 4) ha (hS.pickN 12 [0, 1, 2, 7, 8, 9, 10, 11]) (fun _ hw => hw.blk 2 rfl) rfl fun a ha => ?_;refine xK 2 94 ha (hS.pickN 12 [0, 1, 2, 7, 8, 9, 10, 11]) (fun _ hw => hw.blk 1 rfl) fun a ha => ?_;have hcl := codeOf_le ((sR l fuel mode sh2 v cd2).k) ((sR l fuel mode sh2 v cd2).v);refine jV 3 (qK 95 (vs := [(oG ((sR l fuel mode sh2 v cd2).k) ((sR l fuel mode sh2 v cd2).v) tr2 ((sR l fuel mode sh2 v cd2).m.made))]) ha (outCode_sat hS (sR_k hask9)) fun v52 w a hp53 ha => ?_);obtain ⟨rfl, hS⟩ := hp53;refine ⟨.inr (hS.pickN 12 [0, 1, 2, 7, 8, 9, 10, 11]), ?_⟩;refine yZ 4 (iv (max cd2 (codeOf ((sR l fuel mode sh2 v cd2).k) ((sR l fuel mode sh2 v cd2).v)))) ha ((qG (v := .int .i64 (if cd2 < (codeOf ((sR l fuel mode sh2 v cd2).k) ((sR l fuel mode sh2 v cd2).v)) then (codeOf ((sR l fuel mode sh2 v cd2).k) ((sR l fuel mode sh2 v cd2).v)) else cd2)) ha (zV (op := (Op.call { callee := (Callee.builtin Builtin.max), args := #[(Operand.tmp 93), (Operand.tmp 95)], argTypes := #[3, 3] })) (d := some 96) (ty := 3)) (by kernel_rfl) (fun _ => by kernel_rfl)).as (by congr 1; omega)) (.inr (hS.pickN 12 [0, 1, 2, 7, 8, 9, 10, 11])) fun a ha => ?_;refine jZ (k := 1) [(5, 97, ptr b18 4)] ha (.inr (hS.pickN 12 [0, 1, 2, 7, 8, 9, 10, 11])) fun a ha => ?_;refine jV 6 (xY b18 4 (iv (max cd2 (codeOf ((sR l fuel mode sh2 v cd2).k) ((sR l fuel mode sh2 v cd2).v)))) 2 ha hS rfl rfl fun w a hS ha => ?_);refine qY ?_;refine qH ?_;replace ha := ha.as [(6, ptr b7 0), (7, .bool false)] rfl;refine in_n ?_;replace hS := hS.pickN 12 [4, 2, 5, 6, 3, 7, 8, 9, 10, 11];have hE9 : (⟨jb, (hk ++ [(sR l fuel mode sh2 v cd2).k]), (sy2 ++ saysL (sR l fuel mode sh2 v cd2).m.trace), max cd2 (codeOf ((sR l fuel mode sh2 v cd2).k) ((sR l fuel mode sh2 v cd2).v)), (sR l fuel mode sh2 v cd2).m.shared⟩ : SN) = sHook l fuel mode (⟨jb, hk, sy2, cd2, sh2⟩ : SN) v := by simp only [sHook]; rw [if_neg c51]
       exact ⟨_, ⟨(hk ++ [(sR l fuel mode sh2 v cd2).k]), (sy2 ++ saysL (sR l fuel mode sh2 v cd2).m.trace), (max cd2 (codeOf ((sR l fuel mode sh2 v cd2).k) ((sR l fuel mode sh2 v cd2).v))), ((sR l fuel mode sh2 v cd2).m.shared), s49, sp2, by rw [List.map_append, show List.map Subtype.val [(⟨(j, v), hjv⟩ : At2 hs)] = [(j, v)] from rfl, sHooks_app, ← hq2]; exact hE9, by rw [hE9, List.length_append]; exact hok2.hook hask9, rfl⟩, hS⟩
     ·
      rintro D pre w _ hE ⟨hk, sy2, cd2, sh2, oh, os2, hq2, hok2, rfl⟩ hS
      have hA : playS l js hs mode fuel = (⟨jb, hk, sy2, cd2, sh2⟩ : SN) := by rw [playS_yes hP]; unfold sAll; rw [← hJ, ← hE]; exact hq2.symm
      refine in_n ?_;refine jJ ?_;refine wp_seq ?_;refine p_beginD [0, 1, 2] (no_then (no_bodyM)) ?_;refine yG 98 ha (hS.blk 1 rfl) fun a ha => ?_;refine jK (o_sa 9 ha (xJ (t := 83) (x := 6) (y := 98)) hS fun w a hS ha => ?_);refine jQ [(2, 7, .bool true)] ha fun a ha => ?_;refine jY ?_;refine then_d ?_;refine wp_ret ?_;have hD := hS.obj 0 rfl;replace hS := Sat.putObj (o' := .deferred none) hS;refine endD_res2 (by kernel_rfl) hD (xU (t := 6) (ty := 83) (i := 8) ha rfl hS rfl (by kernel_rfl)) (xZ (t := 7) ha rfl) ?_;replace hS := hS.pickN 9 [1, 2, 3];rw [hA, hP];exact ⟨oj, oh, os2, rfl, hS⟩
   ·
    refine jU ha rfl (zY c17) ?_;refine wp_seq ?_;refine jX [0, 1, 2] ?_;refine jQ [(0, 29, .agg #[.slice none 0 0, .slice none 0 0, .slice none 0 0, iv 0, iv 0])] ha fun a ha => ?_;refine jK (o_sa 0 ha (xJ (t := 83) (x := 6) (y := 29)) hS fun w a hS ha => ?_);refine jQ [(2, 7, .bool false)] ha fun a ha => ?_;refine jY ?_;refine jJ ?_;refine wp_ret ?_;refine qU ?_;refine endM_res2 ha (by kernel_rfl) (xU (t := 6) (ty := 83) (i := 0) ha rfl hS rfl (by kernel_rfl)) (xZ (t := 7) ha rfl) ?_;have hP : playB l js hs mode fuel = false := by unfold playB; simp [c11, c14, c17]
    rw [playS_no hP, hP];exact ⟨⟨none, 0, 0⟩, ⟨none, 0, 0⟩, ⟨none, 0, 0⟩, rfl, Sat.nilRow (Sat.nilRow (Sat.nilRow (Sat.rest [_, _, _, _] hS)))⟩
  ·
   replace ha := ha.turn 21 (.bool false) rfl (congrArg Value.bool c14);replace ha := ha.turn 22 (.bool true) rfl (congrArg Value.bool (zY c14));replace ha := ha.turn 23 (.bool true) rfl (congrArg Value.bool (zY c14));replace ha := ha.turn 24 (.bool true) rfl (congrArg Value.bool (zY c14));refine jQ [(10, 25, undef), (11, 26, undef), (12, 27, undef), (13, 28, .bool true)] ha fun a ha => ?_;refine jY ?_;refine jJ ?_;refine jU ha rfl rfl ?_;refine wp_seq ?_;refine jX [0, 1, 2] ?_;refine jQ [(0, 29, .agg #[.slice none 0 0, .slice none 0 0, .slice none 0 0, iv 0, iv 0])] ha fun a ha => ?_;refine jK (o_sa 0 ha (xJ (t := 83) (x := 6) (y := 29)) hS fun w a hS ha => ?_);refine jQ [(2, 7, .bool false)] ha fun a ha => ?_;refine jY ?_;refine jJ ?_;refine wp_ret ?_;refine qU ?_;refine endM_res2 ha (by kernel_rfl) (xU (t := 6) (ty := 83) (i := 0) ha rfl hS rfl (by kernel_rfl)) (xZ (t := 7) ha rfl) ?_;have hP : playB l js hs mode fuel = false := by unfold playB; simp [c11, c14]
   rw [playS_no hP, hP];exact ⟨⟨none, 0, 0⟩, ⟨none, 0, 0⟩, ⟨none, 0, 0⟩, rfl, Sat.nilRow (Sat.nilRow (Sat.nilRow (Sat.rest [_, _, _, _] hS)))⟩
 ·
  replace ha := ha.turn 16 (.bool false) rfl (congrArg Value.bool c11)
  replace ha := ha.turn 17 (.bool true) rfl (congrArg Value.bool (zY c11))
  replace ha := ha.turn 18 (.bool true) rfl (congrArg Value.bool (zY c11))
  refine jQ [(4, 19, undef), (5, 20, undef), (6, 21, undef), (7, 22, undef), (8, 23, .bool true), (9, 24, .bool true), (10, 25, undef), (11, 26, undef), (12, 27, undef), (13, 28, .bool true)] ha fun a ha => ?_
  refine jY ?_
  refine jJ ?_
  refine jU ha rfl rfl ?_
  refine wp_seq ?_
  refine jX [0, 1, 2] ?_
  refine jQ [(0, 29, .agg #[.slice none 0 0, .slice none 0 0, .slice none 0 0, iv 0, iv 0])] ha fun a ha => ?_
  refine jK (o_sa 0 ha (xJ (t := 83) (x := 6) (y := 29)) hS fun w a hS ha => ?_)
  refine jQ [(2, 7, .bool false)] ha fun a ha => ?_
  refine jY ?_
  replace ha := ha.as [(3, ptr b1 0), (4, ptr b3 0), (5, ptr b5 0), (6, ptr b7 0), (7, .bool false)] rfl
  refine jJ ?_
  refine wp_ret ?_
  refine qU ?_
  refine endM_res2 ha (by kernel_rfl) (xU (t := 6) (ty := 83) (i := 0) ha rfl hS rfl (by kernel_rfl)) (xZ (t := 7) ha rfl) ?_
  have hP : playB l js hs mode fuel = false := by unfold playB; simp [c11]
  rw [playS_no hP, hP]
  exact ⟨⟨none, 0, 0⟩, ⟨none, 0, 0⟩, ⟨none, 0, 0⟩, rfl, Sat.nilRow (Sat.nilRow (Sat.nilRow (Sat.rest [_, _, _, _] hS)))⟩
theorem play_sat {w0 w : World} {Rs : List Asn} {s sj sh : Sl} {l : List (List ST)} {js : List (Int × Int)} {hs : List Int} {mode fuel : Int} (hS : Sat w0 w Rs) (hr : RdP w s l) (hf : Fits l) (hrj : RdE cellsR 2 w sj js) (hrh : RdI w sh hs) :
  Calls Try.prog 58 #[.agg #[.slice s.A s.n s.c], .agg #[.slice sj.A sj.n sj.c, .slice sh.A sh.n sh.c, iv mode], iv fuel] w (Ret fun r w' => ∃ o1 o2 o3 : Sl, r = .tuple #[.agg #[.slice o1.A o1.n o1.c, .slice o2.A o2.n o2.c, .slice o3.A o3.n o3.c, .int .i64 (playS l js hs mode fuel).shared, .int .i64 (playS l js hs mode fuel).code], .bool (playB l js hs mode fuel)] ∧ Sat w0 w' (rI o1 (playS l js hs mode fuel).jobs :: rI o2 (playS l js hs mode fuel).hooks :: rI o3 (playS l js hs mode fuel).says :: Rs)) :=
 (play_sat0 hr hf hrj hrh).mono fun e w' h => by
  cases e with
  | returned r => obtain ⟨o1, o2, o3, h1, h2⟩ := h; exact ⟨o1, o2, o3, h1, hS.comp h2⟩
  | _ => exact h.elim
theorem qpr_sat {w0 w : World} {Rs : List Asn} {s : Sl} {l : List (List ST)} (hS : Sat w0 w Rs) (hr : RdP w s l) (hf : Fits l) :
  Calls Try.prog 82 #[.agg #[.slice s.A s.n s.c]] w (Ret fun r w' => r = .bool (programB l) ∧ Sat w0 w' Rs) := by
 obtain ⟨sbs, hPr⟩ := rdProg_of (c := s.c) hr.rd
 rw [← hr.len] at hPr
 refine (q_prog (Sat.start w) (by rw [PL_length]; have := hf.len; omega) (hPr.keeps [])).mono fun e w' h => ?_
 cases e with
 | returned r => exact ⟨by rw [h.1, progQ_PL], hS.comp (Ps := []) h.2⟩
 | _ => exact h.elim
theorem bwd_at {zs : List Int} {j q : Nat} {v : Int} (hq : q + 1 + j = zs.length) (hv : zs[q]? = some v) : bwd zs (j + 1) = bwd zs j ++ [(q, v)] := by
 rw [bwd_succ, show zs.length - 1 - j = q by omega, List.getD_eq_getElem?_getD, hv]; rfl
theorem code83 : Try.f83.body = some (Code.seq (cr Try.f83 0 false) (Code.seq (Code.seq (cr Try.f83 1 false) (Code.cond (Operand.tmp 27) (Code.seq (cr Try.f83 2 false) Code.ret) Code.skip)) (Code.seq (Code.seq (cr Try.f83 3 false) (Code.block 0 (Code.loop (Code.seq (Code.seq (cr Try.f83 4 false) (Code.cond (Operand.tmp 32) Code.skip (Code.exit 0))) (Code.seq (Code.block 1 (Code.seq (cr Try.f83 6 true) (Code.cond (Operand.tmp 53) (Code.seq (cr Try.f83 7 false) Code.ret) Code.skip))) (cr Try.f83 5 false)))))) (Code.seq (Code.seq (cr Try.f83 8 false) (Code.block 2 (Code.loop (Code.seq (Code.seq (cr Try.f83 9 false) (Code.cond (Operand.tmp 58) Code.skip (Code.exit 2))) (Code.seq (Code.block 3 (Code.seq (cr Try.f83 11 true) (Code.cond (Operand.tmp 68) (Code.seq (cr Try.f83 12 false) Code.ret) Code.skip))) (cr Try.f83 10 false)))))) (Code.seq (cr Try.f83 13 false) Code.ret))))) := by kernel_rfl
theorem qS_sat0 {w0 : World} {s sj sh : Sl} {l : List (List ST)} {js : List (Int × Int)} {hs : List Int} {mode : Int} (hr : RdP w0 s l) (hf : Fits l) (hrj : RdE cellsR 2 w0 sj js) (hrh : RdI w0 sh hs) :
  Calls Try.prog 83 #[.agg #[.slice s.A s.n s.c], .agg #[.slice sj.A sj.n sj.c, .slice sh.A sh.n sh.c, .int .i64 mode]] w0 (Ret fun r w' => r = .bool (programB l && sessB l js hs mode) ∧ Sat w0 w' []) := by
 have hS : Sat w0 w0 [] := Sat.start w0
 have hjn := hrj.len
 have hhn := hrh.len
 have hjb := hrj.big
 have hhb := hrh.big
 refine enter (n := 69) Try.func83 code83 (by kernel_rfl) (Nat.le_of_ble_eq_true rfl) (fun a ha => ?_)
 replace ha : Has 69 [(0, .agg #[.slice s.A s.n s.c]), (1, .agg #[.slice sj.A sj.n sj.c, .slice sh.A sh.n sh.c, iv mode])] a := ha
 refine wp_seq (jX [0, 1, 2] (jK (qX 2 [.slice s.A s.n s.c] 35 (ptr · 0) ha hS fun b1 w a hb2 hS ha => ?_)))
 refine jK (qX 3 [.slice sj.A sj.n sj.c, .slice sh.A sh.n sh.c, iv mode] 39 (ptr · 0) ha hS fun b3 w a hb4 hS ha => ?_)
 refine jQ [(2, 4, .bool false)] ha fun a ha => ?_
 refine jY (jJ (wp_seq (wp_seq (jX [0, 1, 2, 3, 4, 5, 6, 7, 8, 9, 10, 11, 12, 13, 14, 15, 16, 17, 18, 19, 20] (yG 7 ha (hS.blk 1 rfl) fun a ha => ?_)))))
 refine jK (qK 8 (vs := [.agg #[.slice s.A s.n s.c]]) ha (qpr_sat hS (hr.sat hS) hf) fun v5 w a hp6 ha => ?_)
 obtain ⟨rfl, hS⟩ := hp6
 refine jQ [(2, 9, .bool (!((programB l)))), (3, 10, .bool (!((programB l))))] ha fun a ha => ?_
 rcases Bool.eq_false_or_eq_true (programB l) with c7 | c7
 ·
  replace ha := ha.turn 8 (.bool true) rfl (congrArg Value.bool c7)
  replace ha := ha.turn 9 (.bool false) rfl (congrArg Value.bool (yX c7))
  replace ha := ha.turn 10 (.bool false) rfl (congrArg Value.bool (yX c7))
  refine jQ [(4, 11, ptr b3 0)] ha fun a ha => ?_
  refine jG (d := 12) (b := b3) (j := 0) ha (hS.blk 0 rfl) rfl fun a ha => ?_
  refine jQ [(6, 13, iv (sj.n : Int)), (7, 14, .bool (decide ((sj.n : Int) > 12))), (8, 15, .bool (decide ((sj.n : Int) > 12))), (9, 16, .bool (decide ((sj.n : Int) > 12)))] ha fun a ha => ?_
  by_cases c8 : (sj.n : Int) > 12
  ·
   replace ha := ha.turn 14 (.bool true) rfl (congrArg Value.bool (decide_eq_true c8));replace ha := ha.turn 15 (.bool true) rfl (congrArg Value.bool (decide_eq_true c8));replace ha := ha.turn 16 (.bool true) rfl (congrArg Value.bool (decide_eq_true c8));refine jQ [(10, 17, undef), (11, 18, undef), (12, 19, undef), (13, 20, undef), (14, 21, .bool true), (15, 22, .bool true), (16, 23, undef), (17, 24, undef), (18, 25, undef), (19, 26, undef), (20, 27, .bool true)] ha fun a ha => ?_;refine jY ?_;replace ha := ha.as [(2, ptr b1 0), (3, ptr b3 0), (4, .bool false), (27, .bool true)] rfl;refine jJ ?_;refine jU ha rfl rfl ?_;refine wp_seq (jX [0] (jQ [(0, 4, .bool false)] ha fun a ha => ?_));refine jY (jJ (wp_ret (qU (jH ha (by kernel_rfl) (xZ (t := 4) ha rfl) ?_))));have e_js : decide (js.length ≤ 12) = false := decide_eq_false (by omega);have hE : (programB l && sessB l js hs mode) = false := by unfold sessB; simp [c7, e_js]
   rw [hE];exact ⟨rfl, Sat.rest [_, _] hS⟩
  replace ha := ha.turn 14 (.bool false) rfl (congrArg Value.bool (decide_eq_false c8))
  replace ha := ha.turn 15 (.bool false) rfl (congrArg Value.bool (decide_eq_false c8))
  replace ha := ha.turn 16 (.bool false) rfl (congrArg Value.bool (decide_eq_false c8))
  refine jQ [(10, 17, ptr b3 1)] ha fun a ha => ?_
  refine jG (d := 18) (b := b3) (j := 1) ha (hS.blk 0 rfl) rfl fun a ha => ?_
  refine jQ [(12, 19, iv (sh.n : Int)), (13, 20, .bool (decide ((sh.n : Int) > 12))), (14, 21, .bool (decide ((sh.n : Int) > 12))), (15, 22, .bool (decide ((sh.n : Int) > 12)))] ha fun a ha => ?_
  by_cases c9 : (sh.n : Int) > 12
  ·
   replace ha := ha.turn 20 (.bool true) rfl (congrArg Value.bool (decide_eq_true c9));replace ha := ha.turn 21 (.bool true) rfl (congrArg Value.bool (decide_eq_true c9));replace ha := ha.turn 22 (.bool true) rfl (congrArg Value.bool (decide_eq_true c9));refine jQ [(16, 23, undef), (17, 24, undef), (18, 25, undef), (19, 26, undef), (20, 27, .bool true)] ha fun a ha => ?_;refine jY ?_;replace ha := ha.as [(2, ptr b1 0), (3, ptr b3 0), (4, .bool false), (27, .bool true)] rfl;refine jJ ?_;refine jU ha rfl rfl ?_;refine wp_seq (jX [0] (jQ [(0, 4, .bool false)] ha fun a ha => ?_));refine jY (jJ (wp_ret (qU (jH ha (by kernel_rfl) (xZ (t := 4) ha rfl) ?_))));have e_js : decide (js.length ≤ 12) = true := decide_eq_true (by omega);have e_hs : decide (hs.length ≤ 12) = false := decide_eq_false (by omega);have hE : (programB l && sessB l js hs mode) = false := by unfold sessB; simp [c7, e_js, e_hs]
   rw [hE];exact ⟨rfl, Sat.rest [_, _] hS⟩
  replace ha := ha.turn 20 (.bool false) rfl (congrArg Value.bool (decide_eq_false c9))
  replace ha := ha.turn 21 (.bool false) rfl (congrArg Value.bool (decide_eq_false c9))
  replace ha := ha.turn 22 (.bool false) rfl (congrArg Value.bool (decide_eq_false c9))
  refine jQ [(16, 23, ptr b3 2)] ha fun a ha => ?_
  refine jG (d := 24) (b := b3) (j := 2) ha (hS.blk 0 rfl) rfl fun a ha => ?_
  refine jK (qK 25 (vs := [iv mode, iv 1, iv 3]) ha (q_in hS _ _ _) fun v10 w a hp11 ha => ?_)
  obtain ⟨rfl, hS⟩ := hp11
  refine jQ [(19, 26, .bool (!((inB mode 1 3)))), (20, 27, .bool (!((inB mode 1 3))))] ha fun a ha => ?_
  refine jY ?_
  replace ha := ha.as [(2, ptr b1 0), (3, ptr b3 0), (4, .bool false), (27, .bool (!((inB mode 1 3))))] rfl
  refine jJ ?_
  rcases Bool.eq_false_or_eq_true (inB mode 1 3) with c12 | c12
  ·
   refine jW ha rfl (yX c12) ?_;refine wp_skip (jJ (wp_seq (wp_seq (jX [0] (jQ [(0, 5, iv 0)] ha fun a ha => ?_)))));refine jY (jJ (wp_block ?_));replace hS := hS.pickN 2 [1, 0];refine wp_loop_ghost (fun n_ a_ w_ => ∃ (i : Nat), n_ = js.length - i ∧ (i ≤ js.length) ∧ (∀ (j : Nat) z, j < i → js[j]? = some z → jobB l z = true) ∧ Has 69 [(2, ptr b1 0), (3, ptr b3 0), (4, .bool false), (5, iv (i : Int))] a_ ∧ Sat w0 w_ ((SX.blk b1 [.slice s.A s.n s.c] 35) :: (SX.blk b3 [.slice sj.A sj.n sj.c, .slice sh.A sh.n sh.c, iv mode] 39) :: [])) _ ⟨0, rfl, Nat.zero_le _, (fun j z hj => by omega), ha.keeps [2, 3, 4, 5] _ rfl, hS⟩ ?_
   rintro n_ a w ⟨i, rfl, hi, hall, ha, hS⟩
   refine wp_seq (wp_seq (jX [0, 1, 2, 3, 4] (jQ [(0, 28, iv (i : Int)), (1, 29, ptr b3 0)] ha fun a ha => ?_)));refine jG (d := 30) (b := b3) (j := 0) ha (hS.blk 1 rfl) rfl fun a ha => ?_;refine jQ [(3, 31, iv (sj.n : Int)), (4, 32, .bool (decide ((i : Int) < (sj.n : Int))))] ha fun a ha => ?_;refine jY (jJ ?_)
   by_cases c13 : (i : Int) < (sj.n : Int)
   ·
    have hlt : i < js.length := by omega
    obtain ⟨x9, hx9⟩ : ∃ x, js[i]? = some x := ⟨_, List.getElem?_eq_getElem hlt⟩;refine jU ha rfl (decide_eq_true c13) ?_;refine wp_skip (jJ (wp_seq (wp_block (wp_seq (xX 19 19 (hS.pickN 2 [0, 1]) hS fun w hS => ?_)))));refine xK 0 35 ha (hS.pickN 2 [0, 1]) (fun _ hw => hw.blk 0 rfl) fun a ha => ?_;refine jZ (k := 17) [(1, 36, ptr b3 0)] ha (.inr (hS.pickN 2 [0, 1])) fun a ha => ?_;refine qV 2 (d := 37) (b := b3) (j := 0) ha (hS.pickN 2 [0, 1]) (fun _ hw => hw.blk 1 rfl) rfl fun a ha => ?_;refine jZ (k := 15) [(3, 38, iv (i : Int))] ha (.inr (hS.pickN 2 [0, 1])) fun a ha => ?_;refine yZ 4 (.pointer (some ⟨bk sj, of_ sj + i * 2, none⟩)) ha (kX (el := 131) (sz := 2) (j := i) ha (yW (t := 37) (x := 37) (y := 38) (d := 39)) rfl rfl (by kernel_rfl) (by kernel_rfl) (RdE.at_ (hrj.sat hS) _ _ hx9).1 (rfl) (by rw [((hrj.sat hS)).len]; exact (List.getElem?_eq_some_iff.1 hx9).1)) (.inr (hS.pickN 2 [0, 1])) fun a ha => ?_;refine jZ (k := 13) [(5, 40, .pointer (some ⟨bk sj, of_ sj + i * 2, none⟩))] ha (.inr (hS.pickN 2 [0, 1])) fun a ha => ?_;refine zH 6 (iv x9.1) ha (zK ha (zZ (t := 3) (x := 40) (d := 41) (ty := 3)) rfl (by kernel_rfl) (fun w' hw => by exact (RdE.at_ ((hrj.sat hw)) _ _ hx9).2 0 _ rfl)) (hS.pickN 2 [0, 1]) fun a ha => ?_;refine jV 7 (qK 42 (vs := [.agg #[.slice s.A s.n s.c], iv x9.1]) ha (qF_sat hS (hr.sat hS) hf c7) fun v14 w a hp15 ha => ?_);obtain ⟨rfl, hS⟩ := hp15;refine ⟨.inr (hS.pickN 2 [0, 1]), ?_⟩;refine jZ (k := 9) [(8, 43, .bool (!((isFB l x9.1)))), (9, 44, .bool (!((isFB l x9.1))))] ha (.inr (hS.pickN 2 [0, 1])) fun a ha => ?_
    rcases Bool.eq_false_or_eq_true (isFB l x9.1) with c16 | c16
    ·
     replace ha := ha.turn 42 (.bool true) rfl (congrArg Value.bool c16);replace ha := ha.turn 43 (.bool false) rfl (congrArg Value.bool (yX c16));replace ha := ha.turn 44 (.bool false) rfl (congrArg Value.bool (yX c16));refine jZ (k := 8) [(10, 45, ptr b3 0)] ha (.inr (hS.pickN 2 [0, 1])) fun a ha => ?_;refine qV 11 (d := 46) (b := b3) (j := 0) ha (hS.pickN 2 [0, 1]) (fun _ hw => hw.blk 1 rfl) rfl fun a ha => ?_;refine jZ (k := 6) [(12, 47, iv (i : Int))] ha (.inr (hS.pickN 2 [0, 1])) fun a ha => ?_;refine yZ 13 (.pointer (some ⟨bk sj, of_ sj + i * 2, none⟩)) ha (kX (el := 131) (sz := 2) (j := i) ha (AtG.here (gd := 44) ⟨(by kernel_rfl : ((qQ Try.f83 6)[13]?).map spec = some ((Op.indexAddr 37 (Operand.tmp 46) (Operand.tmp 47)), some 48, 0, some (9, false))), by kernel_rfl⟩ ha rfl) rfl rfl (by kernel_rfl) (by kernel_rfl) (RdE.at_ (hrj.sat hS) _ _ hx9).1 (rfl) (by rw [((hrj.sat hS)).len]; exact (List.getElem?_eq_some_iff.1 hx9).1)) (.inr (hS.pickN 2 [0, 1])) fun a ha => ?_;refine jZ (k := 4) [(14, 49, .pointer (some ⟨bk sj, of_ sj + i * 2 + 1, none⟩))] ha (.inr (hS.pickN 2 [0, 1])) fun a ha => ?_;refine zH 15 (iv x9.2) ha (zK ha (AtG.here (gd := 44) ⟨(by kernel_rfl : ((qQ Try.f83 6)[15]?).map spec = some ((Op.load 3 (Operand.tmp 49)), some 50, 3, some (9, false))), by kernel_rfl⟩ ha rfl) rfl (by kernel_rfl) (fun w' hw => by exact (RdE.at_ ((hrj.sat hw)) _ _ hx9).2 1 _ rfl)) (hS.pickN 2 [0, 1]) fun a ha => ?_;refine jV 16 (qK 51 (vs := [iv x9.2]) ha (q_num hS _) fun v17 w a hp18 ha => ?_);obtain ⟨rfl, hS⟩ := hp18;refine ⟨.inr (hS.pickN 2 [0, 1]), ?_⟩;refine jZ (k := 0) [(17, 52, .bool (!((numB x9.2)))), (18, 53, .bool (!((numB x9.2))))] ha (.inr (hS.pickN 2 [0, 1])) fun a ha => ?_;refine qH ?_;replace ha := ha.as [(2, ptr b1 0), (3, ptr b3 0), (4, .bool false), (5, iv (i : Int)), (53, .bool (!((numB x9.2))))] rfl;refine jJ ?_
     rcases Bool.eq_false_or_eq_true (numB x9.2) with c19 | c19
     ·
      refine jW ha rfl (yX c19) ?_;refine wp_skip (in_n (jJ (jX [0, 1, 2] (jQ [(0, 33, iv (i : Int))] ha fun a ha => ?_))));refine zX 34 ((i : Int) + 1) ha fun a ha => ?_;refine jQ [(2, 5, iv ((i : Int) + 1))] ha fun a ha => ?_;refine jY (jJ ?_);replace hS : Sat w0 w ((SX.blk b1 [.slice s.A s.n s.c] 35) :: (SX.blk b3 [.slice sj.A sj.n sj.c, .slice sh.A sh.n sh.c, iv mode] 39) :: []) := hS;exact ⟨_, by omega, i + 1, rfl, by omega, anyN_next hx9 hall (show jobB l x9 = true by unfold jobB; rw [c16, c19]; rfl), ha.keeps [2, 3, 4, 5] _ rfl, hS⟩
     refine jU ha rfl (zY c19) ?_;refine wp_seq (jX [0] (jQ [(0, 4, .bool false)] ha fun a ha => ?_));refine jY (jJ (wp_ret (in_r (qU (qU (in_r (qU (jH ha (by kernel_rfl) (xZ (t := 4) ha rfl) ?_))))))));have hBJ : badJb l js = true := anyN_yes (p := jobB l) hx9 (by unfold jobB; simp [c16, c19]);have e_js : decide (js.length ≤ 12) = true := decide_eq_true (by omega);have e_hs : decide (hs.length ≤ 12) = true := decide_eq_true (by omega);have hE : (programB l && sessB l js hs mode) = false := by unfold sessB; simp [hBJ, c7, e_js, e_hs, c12, c16]
     rw [hE];exact ⟨rfl, Sat.rest [_, _] hS⟩
    replace ha := ha.turn 42 (.bool false) rfl (congrArg Value.bool c16);replace ha := ha.turn 43 (.bool true) rfl (congrArg Value.bool (zY c16));replace ha := ha.turn 44 (.bool true) rfl (congrArg Value.bool (zY c16));refine jZ (k := 0) [(10, 45, undef), (11, 46, undef), (12, 47, undef), (13, 48, undef), (14, 49, undef), (15, 50, undef), (16, 51, undef), (17, 52, undef), (18, 53, .bool true)] ha (.inr (hS.pickN 2 [0, 1])) fun a ha => ?_;refine qH ?_;replace ha := ha.as [(2, ptr b1 0), (3, ptr b3 0), (4, .bool false), (5, iv (i : Int)), (53, .bool true)] rfl;refine jJ ?_;refine jU ha rfl rfl ?_;refine wp_seq (jX [0] (jQ [(0, 4, .bool false)] ha fun a ha => ?_));refine jY (jJ (wp_ret (in_r (qU (qU (in_r (qU (jH ha (by kernel_rfl) (xZ (t := 4) ha rfl) ?_))))))));have hBJ : badJb l js = true := anyN_yes (p := jobB l) hx9 (by unfold jobB; simp [c16]);have e_js : decide (js.length ≤ 12) = true := decide_eq_true (by omega);have e_hs : decide (hs.length ≤ 12) = true := decide_eq_true (by omega);have hE : (programB l && sessB l js hs mode) = false := by unfold sessB; simp [hBJ, c7, e_js, e_hs, c12, c16]
    rw [hE];exact ⟨rfl, Sat.rest [_, _] hS⟩
   refine jW ha rfl (decide_eq_false c13) ?_;refine wp_exit (xV (xV (in_x (jJ (wp_seq (wp_seq (jX [0] (jQ [(0, 6, iv 0)] ha fun a ha => ?_))))))));refine jY (jJ (wp_block ?_));have hBJ : badJb l js = false := anyN_no hall (by omega);replace hS : Sat w0 w ((SX.blk b1 [.slice s.A s.n s.c] 35) :: (SX.blk b3 [.slice sj.A sj.n sj.c, .slice sh.A sh.n sh.c, iv mode] 39) :: []) := hS;refine wp_loop_ghost (fun n_ a_ w_ => ∃ (i : Nat), n_ = hs.length - i ∧ (i ≤ hs.length) ∧ (∀ (j : Nat) z, j < i → hs[j]? = some z → isFB l z = true) ∧ Has 69 [(2, ptr b1 0), (3, ptr b3 0), (4, .bool false), (6, iv (i : Int))] a_ ∧ Sat w0 w_ ((SX.blk b1 [.slice s.A s.n s.c] 35) :: (SX.blk b3 [.slice sj.A sj.n sj.c, .slice sh.A sh.n sh.c, iv mode] 39) :: [])) _ ⟨0, rfl, Nat.zero_le _, (fun j z hj => by omega), ha.keeps [2, 3, 4, 6] _ rfl, hS⟩ ?_
   rintro n_ a w ⟨i, rfl, hi, hall, ha, hS⟩
   refine wp_seq (wp_seq (jX [0, 1, 2, 3, 4] (jQ [(0, 54, iv (i : Int)), (1, 55, ptr b3 1)] ha fun a ha => ?_)));refine jG (d := 56) (b := b3) (j := 1) ha (hS.blk 1 rfl) rfl fun a ha => ?_;refine jQ [(3, 57, iv (sh.n : Int)), (4, 58, .bool (decide ((i : Int) < (sh.n : Int))))] ha fun a ha => ?_;refine jY (jJ ?_)
   by_cases c20 : (i : Int) < (sh.n : Int)
   ·
    have hlt : i < hs.length := by omega
    obtain ⟨x9, hx9⟩ : ∃ x, hs[i]? = some x := ⟨_, List.getElem?_eq_getElem hlt⟩;refine jU ha rfl (decide_eq_true c20) ?_;refine wp_skip (jJ (wp_seq (wp_block (wp_seq (xW 6 8 hS fun w hS => ?_)))));refine xK 0 61 ha hS (fun _ hw => hw.blk 0 rfl) fun a ha => ?_;refine jZ (k := 6) [(1, 62, ptr b3 1)] ha (.inr hS) fun a ha => ?_;refine d_ldN 2 (d := 63) (b := b3) (j := 1) ha hS (fun _ hw => hw.blk 1 rfl) rfl fun a ha => ?_;refine jZ (k := 4) [(3, 64, iv (i : Int))] ha (.inr hS) fun a ha => ?_;refine yZ 4 (.pointer (some ⟨bk sh, of_ sh + i * 1, none⟩)) ha (kQ (el := 3) (sz := 1) (j := i) ha (yW (t := 26) (x := 63) (y := 64) (d := 65)) rfl rfl (by kernel_rfl) (by kernel_rfl) ((hrh.sat hS).at_ ((List.getElem?_eq_some_iff.1 hx9).1)).1 (by rw [((hrh.sat hS)).len]; exact (List.getElem?_eq_some_iff.1 hx9).1)) (.inr hS) fun a ha => ?_;refine zH 5 (iv x9) ha (zK (p := ⟨bk sh, of_ sh + i * 1, none⟩) ha (zZ (t := 3) (x := 65) (d := 66) (ty := 3)) rfl (by kernel_rfl) (fun w' hw => by rw [Nat.mul_one, ← getD_is hx9]; exact (((hrh.sat hw)).at_ ((List.getElem?_eq_some_iff.1 hx9).1)).2)) hS fun a ha => ?_;refine jV 6 (qK 67 (vs := [.agg #[.slice s.A s.n s.c], iv x9]) ha (qF_sat hS (hr.sat hS) hf c7) fun v21 w a hp22 ha => ?_);obtain ⟨rfl, hS⟩ := hp22;refine qY (jZ (k := 0) [(7, 68, .bool (!((isFB l x9))))] ha (.inl (by kernel_rfl)) fun a ha => ?_);refine qH ?_;replace ha := ha.as [(2, ptr b1 0), (3, ptr b3 0), (4, .bool false), (6, iv (i : Int)), (68, .bool (!((isFB l x9))))] rfl;refine jJ ?_
    rcases Bool.eq_false_or_eq_true (isFB l x9) with c23 | c23
    ·
     refine jW ha rfl (yX c23) ?_;refine wp_skip (in_n (jJ (jX [0, 1, 2] (jQ [(0, 59, iv (i : Int))] ha fun a ha => ?_))));refine zX 60 ((i : Int) + 1) ha fun a ha => ?_;refine jQ [(2, 6, iv ((i : Int) + 1))] ha fun a ha => ?_;refine jY (jJ ?_);replace hS : Sat w0 w ((SX.blk b1 [.slice s.A s.n s.c] 35) :: (SX.blk b3 [.slice sj.A sj.n sj.c, .slice sh.A sh.n sh.c, iv mode] 39) :: []) := hS;exact ⟨_, by omega, i + 1, rfl, by omega, anyN_next hx9 hall c23, ha.keeps [2, 3, 4, 6] _ rfl, hS⟩
    refine jU ha rfl (zY c23) ?_;refine wp_seq (jX [0] (jQ [(0, 4, .bool false)] ha fun a ha => ?_));refine jY (jJ (wp_ret (in_r (qU (qU (in_r (qU (jH ha (by kernel_rfl) (xZ (t := 4) ha rfl) ?_))))))));have hBH : badHk l hs = true := anyN_yes (p := isFB l) hx9 c23;have e_js : decide (js.length ≤ 12) = true := decide_eq_true (by omega);have e_hs : decide (hs.length ≤ 12) = true := decide_eq_true (by omega);have hE : (programB l && sessB l js hs mode) = false := by unfold sessB; simp [hBJ, hBH, c7, e_js, e_hs, c12, c23]
    rw [hE];exact ⟨rfl, Sat.rest [_, _] hS⟩
   refine jW ha rfl (decide_eq_false c20) ?_;refine wp_exit (xV (xV (in_x (jJ (wp_seq (jX [0] (jQ [(0, 4, .bool true)] ha fun a ha => ?_)))))));refine jY ?_;replace ha := ha.as [(4, .bool true)] rfl;refine jJ (wp_ret (jH ha (by kernel_rfl) (xZ (t := 4) ha rfl) ?_));have hBH : badHk l hs = false := anyN_no hall (by omega);have e_js : decide (js.length ≤ 12) = true := decide_eq_true (by omega);have e_hs : decide (hs.length ≤ 12) = true := decide_eq_true (by omega);have hE : (programB l && sessB l js hs mode) = true := by unfold sessB; simp [hBJ, hBH, c7, e_js, e_hs, c12]
   rw [hE];exact ⟨rfl, Sat.rest [_, _] hS⟩
  refine jU ha rfl (zY c12) ?_
  refine wp_seq (jX [0] (jQ [(0, 4, .bool false)] ha fun a ha => ?_))
  refine jY (jJ (wp_ret (qU (jH ha (by kernel_rfl) (xZ (t := 4) ha rfl) ?_))))
  have e_js : decide (js.length ≤ 12) = true := decide_eq_true (by omega)
  have e_hs : decide (hs.length ≤ 12) = true := decide_eq_true (by omega)
  have hE : (programB l && sessB l js hs mode) = false := by unfold sessB; simp [c7, e_js, e_hs, c12]
  rw [hE]
  exact ⟨rfl, Sat.rest [_, _] hS⟩
 replace ha := ha.turn 8 (.bool false) rfl (congrArg Value.bool c7)
 replace ha := ha.turn 9 (.bool true) rfl (congrArg Value.bool (zY c7))
 replace ha := ha.turn 10 (.bool true) rfl (congrArg Value.bool (zY c7))
 refine jQ [(4, 11, undef), (5, 12, undef), (6, 13, undef), (7, 14, undef), (8, 15, .bool true), (9, 16, .bool true), (10, 17, undef), (11, 18, undef), (12, 19, undef), (13, 20, undef), (14, 21, .bool true), (15, 22, .bool true), (16, 23, undef), (17, 24, undef), (18, 25, undef), (19, 26, undef), (20, 27, .bool true)] ha fun a ha => ?_
 refine jY ?_
 replace ha := ha.as [(2, ptr b1 0), (3, ptr b3 0), (4, .bool false), (27, .bool true)] rfl
 refine jJ ?_
 refine jU ha rfl rfl ?_
 refine wp_seq (jX [0] (jQ [(0, 4, .bool false)] ha fun a ha => ?_))
 refine jY (jJ (wp_ret (qU (jH ha (by kernel_rfl) (xZ (t := 4) ha rfl) ?_))))
 have hE : (programB l && sessB l js hs mode) = false := by unfold sessB; simp [c7]
 rw [hE]
 exact ⟨rfl, Sat.rest [_, _] hS⟩
theorem qS_sat {w0 w : World} {Rs : List Asn} {s sj sh : Sl} {l : List (List ST)} {js : List (Int × Int)} {hs : List Int} {mode : Int} (hS : Sat w0 w Rs) (hr : RdP w s l) (hf : Fits l) (hrj : RdE cellsR 2 w sj js) (hrh : RdI w sh hs) :
  Calls Try.prog 83 #[.agg #[.slice s.A s.n s.c], .agg #[.slice sj.A sj.n sj.c, .slice sh.A sh.n sh.c, .int .i64 mode]] w (Ret fun r w' => r = .bool (programB l && sessB l js hs mode) ∧ Sat w0 w' Rs) := lift0 hS (qS_sat0 hr hf hrj hrh)
theorem code53 : Try.f53.body = some (Code.seq (cr Try.f53 0 false) (Code.seq (cr Try.f53 1 false) Code.ret)) := by kernel_rfl
theorem qask_sat0 {w0 : World} {s sj sh : Sl} {l : List (List ST)} {js : List (Int × Int)} {hs : List Int} {mode fuel : Int} (hr : RdP w0 s l) (hf : Fits l) (hrj : RdE cellsR 2 w0 sj js) (hrh : RdI w0 sh hs) :
  Calls Try.prog 53 #[.agg #[.slice s.A s.n s.c], .agg #[.slice sj.A sj.n sj.c, .slice sh.A sh.n sh.c, iv mode], iv fuel] w0 (Ret fun r w' => r = .bool (playB l js hs mode fuel) ∧ Sat w0 w' []) := by
 have hS : Sat w0 w0 [] := Sat.start w0
 have hjn := hrj.len
 have hhn := hrh.len
 have hjb := hrj.big
 have hhb := hrh.big
 refine enter (n := 14) Try.func53 code53 (by kernel_rfl) (Nat.le_of_ble_eq_true rfl) (fun a ha => ?_)
 replace ha : Has 14 [(0, .agg #[.slice s.A s.n s.c]), (1, .agg #[.slice sj.A sj.n sj.c, .slice sh.A sh.n sh.c, iv mode]), (2, iv fuel)] a := ha
 refine wp_seq (jX [0, 1, 2] (jK (qX 3 [.slice s.A s.n s.c] 35 (ptr · 0) ha hS fun b1 w a hb2 hS ha => ?_)))
 refine jK (qX 4 [.slice sj.A sj.n sj.c, .slice sh.A sh.n sh.c, iv mode] 39 (ptr · 0) ha hS fun b3 w a hb4 hS ha => ?_)
 refine jQ [(2, 6, .bool false)] ha fun a ha => ?_
 refine jY (jJ (wp_seq (jX [0, 1, 2, 3, 4, 5, 6, 7] (yG 7 ha (hS.blk 1 rfl) fun a ha => ?_))))
 refine yG 8 ha (hS.blk 0 rfl) fun a ha => ?_
 refine jK (qK 9 (vs := [.agg #[.slice s.A s.n s.c], .agg #[.slice sj.A sj.n sj.c, .slice sh.A sh.n sh.c, iv mode]]) ha (qS_sat hS (hr.sat hS) hf (hrj.sat hS) (hrh.sat hS)) fun v5 w a hp6 ha => ?_)
 obtain ⟨rfl, hS⟩ := hp6
 refine jQ [(3, 10, .bool (programB l && sessB l js hs mode))] ha fun a ha => ?_
 rcases Bool.eq_false_or_eq_true (programB l && sessB l js hs mode) with c7 | c7
 ·
  replace ha := ha.turn 9 (.bool true) rfl (congrArg Value.bool c7)
  replace ha := ha.turn 10 (.bool true) rfl (congrArg Value.bool c7)
  refine jQ [(4, 11, iv fuel)] ha fun a ha => ?_
  refine jK (qK 12 (vs := [iv fuel, iv 0, iv 200]) ha (q_in hS _ _ _) fun v8 w a hp9 ha => ?_)
  obtain ⟨rfl, hS⟩ := hp9
  refine jQ [(6, 13, .bool (inB fuel 0 200)), (7, 6, .bool (inB fuel 0 200))] ha fun a ha => ?_
  refine jY (jJ (wp_ret (jH ha (by kernel_rfl) (xZ (t := 6) ha rfl) ?_)))
  have hE : playB l js hs mode fuel = (inB fuel 0 200) := by unfold playB; simp [c7]
  rw [hE]
  exact ⟨rfl, Sat.rest [_, _] hS⟩
 replace ha := ha.turn 9 (.bool false) rfl (congrArg Value.bool c7)
 replace ha := ha.turn 10 (.bool false) rfl (congrArg Value.bool c7)
 refine jQ [(4, 11, undef), (5, 12, undef), (6, 13, .bool false), (7, 6, .bool false)] ha fun a ha => ?_
 refine jY (jJ (wp_ret (jH ha (by kernel_rfl) (xZ (t := 6) ha rfl) ?_)))
 have hE : playB l js hs mode fuel = false := by unfold playB; simp [c7]
 rw [hE]
 exact ⟨rfl, Sat.rest [_, _] hS⟩
theorem qask_sat {w0 w : World} {Rs : List Asn} {s sj sh : Sl} {l : List (List ST)} {js : List (Int × Int)} {hs : List Int} {mode fuel : Int} (hS : Sat w0 w Rs) (hr : RdP w s l) (hf : Fits l) (hrj : RdE cellsR 2 w sj js) (hrh : RdI w sh hs) :
  Calls Try.prog 53 #[.agg #[.slice s.A s.n s.c], .agg #[.slice sj.A sj.n sj.c, .slice sh.A sh.n sh.c, iv mode], iv fuel] w (Ret fun r w' => r = .bool (playB l js hs mode fuel) ∧ Sat w0 w' Rs) := lift0 hS (qask_sat0 hr hf hrj hrh)
theorem code90 : Try.f90.body = some (Code.seq (cr Try.f90 0 false) (Code.seq (Code.seq (cr Try.f90 1 false) (Code.cond (Operand.tmp 7) (Code.seq (cr Try.f90 2 false) Code.ret) Code.skip)) (Code.seq (cr Try.f90 3 false) Code.ret))) := by kernel_rfl
theorem most_sat {w0 w : World} {Rs : List Asn} (hS : Sat w0 w Rs) (x y : Int) :
  Calls Try.prog 90 #[.int .i64 x, .int .i64 y] w (Ret fun r w' => r = .int .i64 (max x y) ∧ Sat w0 w' Rs) := by
 refine enter (n := 10) Try.func90 code90 (by kernel_rfl) (Nat.le_of_ble_eq_true rfl) (fun a ha => ?_)
 replace ha : Has 10 [(0, iv x), (1, iv y)] a := ha
 refine wp_seq (jX [0] (jQ [(0, 4, iv 0)] ha fun a ha => ?_))
 refine jY (jJ (wp_seq (wp_seq (jX [0, 1, 2] (jQ [(0, 5, iv x), (1, 6, iv y), (2, 7, .bool (decide (x > y)))] ha fun a ha => ?_)))))
 refine jY (jJ ?_)
 by_cases c1 : x > y
 ·
  refine jU ha rfl (decide_eq_true c1) ?_
  refine wp_seq (jX [0, 1] (jQ [(0, 8, iv x), (1, 4, iv x)] ha fun a ha => ?_))
  refine jY (jJ (wp_ret (qU (jH ha (by kernel_rfl) (xZ (t := 4) ha rfl) ?_))))
  have hE : max x y = x := by omega
  rw [hE]
  exact ⟨rfl, hS⟩
 refine jW ha rfl (decide_eq_false c1) ?_
 refine wp_skip (jJ (wp_seq (jX [0, 1] (jQ [(0, 9, iv y), (1, 4, iv y)] ha fun a ha => ?_))))
 refine jY (jJ (wp_ret (jH ha (by kernel_rfl) (xZ (t := 4) ha rfl) ?_)))
 have hE : max x y = y := by omega
 rw [hE]
 exact ⟨rfl, hS⟩
theorem code54 : Try.f54.body = some (Code.seq (cr Try.f54 0 false) (Code.seq (cr Try.f54 1 false) (Code.seq (Code.seq (cr Try.f54 2 false) (Code.block 0 (Code.loop (Code.seq (Code.seq (cr Try.f54 3 false) (Code.cond (Operand.tmp 22) Code.skip (Code.exit 0))) (Code.seq (Code.block 1 (Code.seq (cr Try.f54 5 true) (Code.seq (cr Try.f54 6 false) (Code.seq (cr Try.f54 7 true) (Code.seq (cr Try.f54 8 true) (Code.seq (cr Try.f54 9 false) (Code.cond (Operand.tmp 67) (Code.exit 0) Code.skip))))))) (cr Try.f54 4 false)))))) (Code.seq (Code.seq (cr Try.f54 10 false) (Code.block 2 (Code.loop (Code.seq (Code.seq (cr Try.f54 11 false) (Code.cond (Operand.tmp 73) Code.skip (Code.exit 2))) (Code.seq (Code.block 3 (Code.seq (cr Try.f54 13 true) (Code.seq (cr Try.f54 14 false) (Code.seq (cr Try.f54 15 true) (Code.seq (cr Try.f54 16 false) (Code.cond (Operand.tmp 102) (cr Try.f54 17 true) Code.skip)))))) (cr Try.f54 12 false)))))) (Code.seq (cr Try.f54 18 false) Code.ret))))) := by kernel_rfl
theorem qrun_sat0 {w0 : World} {s sj sh : Sl} {l : List (List ST)} {js : List (Int × Int)} {hs : List Int} {mode fuel : Int} (hr : RdP w0 s l) (hrj : RdE cellsR 2 w0 sj js) (hrh : RdI w0 sh hs) (hP : playB l js hs mode fuel = true) :
  Calls Try.prog 54 #[.agg #[.slice s.A s.n s.c], .agg #[.slice sj.A sj.n sj.c, .slice sh.A sh.n sh.c, iv mode], iv fuel] w0 (Ret fun r w' => ∃ o1 o2 o3 : Sl, r = .agg #[.slice o1.A o1.n o1.c, .slice o2.A o2.n o2.c, .slice o3.A o3.n o3.c, .int .i64 (playS l js hs mode fuel).code, .int .i64 (playS l js hs mode fuel).shared] ∧ Sat w0 w' (rI o1 (playS l js hs mode fuel).jobs :: rI o2 (playS l js hs mode fuel).hooks :: rI o3 (playS l js hs mode fuel).says :: [])) := by
 have hS : Sat w0 w0 [] := Sat.start w0
 have hjn := hrj.len
 have hhn := hrh.len
 have hjb := hrj.big
 have hhb := hrh.big
 obtain ⟨hj12, hh12, hmo, -, -⟩ := sess_parts (play_parts hP).2.1
 refine enter (n := 110) Try.func54 code54 (by kernel_rfl) (Nat.le_of_ble_eq_true rfl) (fun a ha => ?_)
 replace ha : Has 110 [(0, .agg #[.slice s.A s.n s.c]), (1, .agg #[.slice sj.A sj.n sj.c, .slice sh.A sh.n sh.c, iv mode]), (2, iv fuel)] a := ha
 refine wp_seq (jX [0, 1, 2] (jK (qX 3 [.slice s.A s.n s.c] 35 (ptr · 0) ha hS fun b1 w a hb2 hS ha => ?_)))
 refine jK (qX 4 [.slice sj.A sj.n sj.c, .slice sh.A sh.n sh.c, iv mode] 39 (ptr · 0) ha hS fun b3 w a hb4 hS ha => ?_)
 refine jK (qX 6 [.slice none 0 0, .slice none 0 0, .slice none 0 0, iv 0, iv 0] 77 (ptr · 0) ha hS fun b5 w a hb6 hS ha => ?_)
 refine jY (jJ (wp_seq (jX [0, 1, 2, 3, 4, 5] (jK (qX 14 [] 3 (fun b => .slice (some ⟨b, 0, none⟩) 0 0) ha hS fun b7 w a hb8 hS ha => ?_)))))
 refine jK (qX 15 [] 3 (fun b => .slice (some ⟨b, 0, none⟩) 0 0) ha hS fun b9 w a hb10 hS ha => ?_)
 refine jK (qX 16 [] 3 (fun b => .slice (some ⟨b, 0, none⟩) 0 0) ha hS fun b11 w a hb12 hS ha => ?_)
 refine jQ [(3, 17, .agg #[.slice (some ⟨b7, 0, none⟩) 0 0, .slice (some ⟨b9, 0, none⟩) 0 0, .slice (some ⟨b11, 0, none⟩) 0 0, iv 0, iv 0])] ha fun a ha => ?_
 refine jK (qX 7 [.slice none 0 0, .slice none 0 0, .slice none 0 0, iv 0, iv 0] 77 (ptr · 0) ha hS fun b13 w a hb14 hS ha => ?_)
 refine jK (o_sa 0 ha (xJ (t := 77) (x := 7) (y := 17)) hS fun w a hS ha => ?_)
 refine jY (jJ (wp_seq (wp_seq (jX [0] (jQ [(0, 8, iv 0)] ha fun a ha => ?_)))))
 refine jY (jJ (kK (J := fun a_ w_ => ∃ (jb : List Int) (sy : List Int) (cd : Int) (shd : Int) (oj : Sl) (os : Sl), ((⟨jb, [], sy, cd, shd⟩ : SN) = sJobs l fuel mode js s0) ∧ (SOk (⟨jb, [], sy, cd, shd⟩ : SN) 12) ∧ Has 110 [(2, iv fuel), (3, ptr b1 0), (4, ptr b3 0), (6, ptr b5 0), (7, ptr b13 0)] a_ ∧ Sat w0 w_ ((SX.blk b13 [.slice oj.A oj.n oj.c, .slice (some ⟨b9, 0, none⟩) 0 0, .slice os.A os.n os.c, iv cd, iv shd] 77) :: (rI oj jb) :: (rI os sy) :: (rI (⟨some ⟨b9, 0, none⟩, 0, 0⟩ : Sl) []) :: (SX.blk b1 [.slice s.A s.n s.c] 35) :: (SX.blk b3 [.slice sj.A sj.n sj.c, .slice sh.A sh.n sh.c, iv mode] 39) :: (SX.blk b5 [.slice none 0 0, .slice none 0 0, .slice none 0 0, iv 0, iv 0] 77) :: [])) ?_ ?_))
 ·
  refine wp_block ?_
  replace hS := hS.blk0 1 3 rfl
  replace hS := hS.blk0 1 2 rfl
  replace hS := hS.blk0 1 1 rfl
  replace hS := hS.pickN 7 [0, 3, 1, 2, 6, 5, 4]
  refine wp_loop_ghost (fun n_ a_ w_ => ∃ (i : Nat) (jb : List Int) (sy : List Int) (cd : Int) (shd : Int) (oj : Sl) (os : Sl), n_ = js.length - i ∧ (i ≤ js.length) ∧ (sJobs l fuel mode (js.drop i) (⟨jb, [], sy, cd, shd⟩ : SN) = sJobs l fuel mode js s0) ∧ (SOk (⟨jb, [], sy, cd, shd⟩ : SN) i) ∧ Has 110 [(2, iv fuel), (3, ptr b1 0), (4, ptr b3 0), (6, ptr b5 0), (7, ptr b13 0), (8, iv (i : Int))] a_ ∧ Sat w0 w_ ((SX.blk b13 [.slice oj.A oj.n oj.c, .slice (some ⟨b9, 0, none⟩) 0 0, .slice os.A os.n os.c, iv cd, iv shd] 77) :: (rI oj jb) :: (rI os sy) :: (rI (⟨some ⟨b9, 0, none⟩, 0, 0⟩ : Sl) []) :: (SX.blk b1 [.slice s.A s.n s.c] 35) :: (SX.blk b3 [.slice sj.A sj.n sj.c, .slice sh.A sh.n sh.c, iv mode] 39) :: (SX.blk b5 [.slice none 0 0, .slice none 0 0, .slice none 0 0, iv 0, iv 0] 77) :: [])) _ ⟨0, [], [], 0, 0, ⟨some ⟨b7, 0, none⟩, 0, 0⟩, ⟨some ⟨b11, 0, none⟩, 0, 0⟩, rfl, Nat.zero_le _, rfl, SOk.s0, ha.keeps [2, 3, 4, 6, 7, 8] _ rfl, hS⟩ ?_
  rintro n_ a w ⟨i, jb, sy, cd, shd, oj, os, rfl, hi, hq, hok, ha, hS⟩
  have hb9 := hok.le
  dsimp only at hb9
  refine wp_seq (wp_seq (jX [0, 1, 2, 3, 4] (jQ [(0, 18, iv (i : Int)), (1, 19, ptr b3 0)] ha fun a ha => ?_)))
  refine jG (d := 20) (b := b3) (j := 0) ha (hS.blk 5 rfl) rfl fun a ha => ?_
  refine jQ [(3, 21, iv (sj.n : Int)), (4, 22, .bool (decide ((i : Int) < (sj.n : Int))))] ha fun a ha => ?_
  refine jY (jJ ?_)
  by_cases c15 : (i : Int) < (sj.n : Int)
  ·
   have hlt : i < js.length := by omega
   obtain ⟨x9, hx9⟩ : ∃ x, js[i]? = some x := ⟨_, List.getElem?_eq_getElem hlt⟩;have hask1 := play_job hP hx9;refine jU ha rfl (decide_eq_true c15) ?_;refine wp_skip (jJ (wp_seq (wp_block (kV (J := fun a_ w_ => ∃ (g1_0 : Nat) (g1_1 : Nat) (g1_2 : Sl) (g1_3 : Sl), Has 110 [(2, iv fuel), (3, ptr b1 0), (4, ptr b3 0), (6, ptr b5 0), (7, ptr b13 0), (8, iv (i : Int)), (9, ptr g1_0 0), (10, ptr g1_1 0)] a_ ∧ Sat w0 w_ ((SX.blk g1_1 [iv ((sR l fuel mode shd x9.1 x9.2).k), iv ((sR l fuel mode shd x9.1 x9.2).v), .slice g1_2.A g1_2.n g1_2.c, iv ((sR l fuel mode shd x9.1 x9.2).m.made)] 103) :: (SX.blk g1_0 [.slice oj.A oj.n oj.c, .slice (some ⟨b9, 0, none⟩) 0 0, .slice g1_3.A g1_3.n g1_3.c, iv cd, iv ((sR l fuel mode shd x9.1 x9.2).m.shared)] 77) :: (rI g1_3 (sy ++ saysL (sR l fuel mode shd x9.1 x9.2).m.trace)) :: (rI os sy) :: (SX.blk b13 [.slice oj.A oj.n oj.c, .slice (some ⟨b9, 0, none⟩) 0 0, .slice os.A os.n os.c, iv cd, iv shd] 77) :: (rI oj jb) :: (rI (⟨some ⟨b9, 0, none⟩, 0, 0⟩ : Sl) []) :: (SX.blk b1 [.slice s.A s.n s.c] 35) :: (SX.blk b3 [.slice sj.A sj.n sj.c, .slice sh.A sh.n sh.c, iv mode] 39) :: (SX.blk b5 [.slice none 0 0, .slice none 0 0, .slice none 0 0, iv 0, iv 0] 77) :: [])) ?_ ?_))))
   ·
    refine xW 16 24 hS fun w hS => ?_;refine xK 0 26 ha hS (fun _ hw => hw.blk 4 rfl) fun a ha => ?_;refine xK 1 27 ha hS (fun _ hw => hw.blk 5 rfl) fun a ha => ?_;refine jZ (k := 21) [(2, 28, ptr b3 0)] ha (.inr hS) fun a ha => ?_;refine d_ldN 3 (d := 29) (b := b3) (j := 0) ha hS (fun _ hw => hw.blk 5 rfl) rfl fun a ha => ?_;refine jZ (k := 19) [(4, 30, iv (i : Int))] ha (.inr hS) fun a ha => ?_;refine yZ 5 (.pointer (some ⟨bk sj, of_ sj + i * 2, none⟩)) ha (kX (el := 131) (sz := 2) (j := i) ha (yW (t := 37) (x := 29) (y := 30) (d := 31)) rfl rfl (by kernel_rfl) (by kernel_rfl) (RdE.at_ (hrj.sat hS) _ _ hx9).1 (rfl) (by rw [((hrj.sat hS)).len]; exact (List.getElem?_eq_some_iff.1 hx9).1)) (.inr hS) fun a ha => ?_;refine jZ (k := 17) [(6, 32, .pointer (some ⟨bk sj, of_ sj + i * 2, none⟩))] ha (.inr hS) fun a ha => ?_;refine zH 7 (iv x9.1) ha (zK ha (zZ (t := 3) (x := 32) (d := 33) (ty := 3)) rfl (by kernel_rfl) (fun w' hw => by exact (RdE.at_ ((hrj.sat hw)) _ _ hx9).2 0 _ rfl)) hS fun a ha => ?_;refine jZ (k := 15) [(8, 34, ptr b3 0)] ha (.inr hS) fun a ha => ?_;refine d_ldN 9 (d := 35) (b := b3) (j := 0) ha hS (fun _ hw => hw.blk 5 rfl) rfl fun a ha => ?_;refine jZ (k := 13) [(10, 36, iv (i : Int))] ha (.inr hS) fun a ha => ?_;refine yZ 11 (.pointer (some ⟨bk sj, of_ sj + i * 2, none⟩)) ha (kX (el := 131) (sz := 2) (j := i) ha (yW (t := 37) (x := 35) (y := 36) (d := 37)) rfl rfl (by kernel_rfl) (by kernel_rfl) (RdE.at_ (hrj.sat hS) _ _ hx9).1 (rfl) (by rw [((hrj.sat hS)).len]; exact (List.getElem?_eq_some_iff.1 hx9).1)) (.inr hS) fun a ha => ?_;refine jZ (k := 11) [(12, 38, .pointer (some ⟨bk sj, of_ sj + i * 2 + 1, none⟩))] ha (.inr hS) fun a ha => ?_;refine zH 13 (iv x9.2) ha (zK ha (zZ (t := 3) (x := 38) (d := 39) (ty := 3)) rfl (by kernel_rfl) (fun w' hw => by exact (RdE.at_ ((hrj.sat hw)) _ _ hx9).2 1 _ rfl)) hS fun a ha => ?_;refine jZ (k := 9) [(14, 40, iv fuel)] ha (.inr hS) fun a ha => ?_;refine xK 15 41 ha hS (fun _ hw => hw.blk 0 rfl) fun a ha => ?_;refine d_all (rs := [16, 20, 21]) (by kernel_rfl) (by simp) (forall_mem_3 ?_ ?_ ?_)
    ·
     replace hS := hS.pickN 7 [2, 0, 1, 3, 4, 5, 6];refine id (qK 42 (vs := [.agg #[.slice s.A s.n s.c], .agg #[.slice sj.A sj.n sj.c, .slice sh.A sh.n sh.c, iv mode], iv x9.1, iv x9.2, iv fuel, .agg #[.slice oj.A oj.n oj.c, .slice (some ⟨b9, 0, none⟩) 0 0, .slice os.A os.n os.c, iv cd, iv shd]]) ha (one_sat (jh := ⟨some ⟨b9, 0, none⟩, 0, 0⟩) hS hr hask1 (by omega) hok.sh) fun v16 w a hp17 ha => ?_);obtain ⟨tr1, sp1, rfl, hS⟩ := hp17;refine qY (jZ (k := 4) [(17, 25, .tuple #[.agg #[.slice oj.A oj.n oj.c, .slice (some ⟨b9, 0, none⟩) 0 0, .slice sp1.A sp1.n sp1.c, iv cd, iv ((sR l fuel mode shd x9.1 x9.2).m.shared)], (oG ((sR l fuel mode shd x9.1 x9.2).k) ((sR l fuel mode shd x9.1 x9.2).v) tr1 ((sR l fuel mode shd x9.1 x9.2).m.made))]), (18, 43, .agg #[.slice oj.A oj.n oj.c, .slice (some ⟨b9, 0, none⟩) 0 0, .slice sp1.A sp1.n sp1.c, iv cd, iv ((sR l fuel mode shd x9.1 x9.2).m.shared)]), (19, 44, (oG ((sR l fuel mode shd x9.1 x9.2).k) ((sR l fuel mode shd x9.1 x9.2).v) tr1 ((sR l fuel mode shd x9.1 x9.2).m.made)))] ha (.inl (by kernel_rfl)) fun a ha => ?_);refine d_all (rs := [20, 21]) (by kernel_rfl) (by simp) (forall_mem_2 ?_ ?_)
     ·
      refine id (qX 9 [.slice none 0 0, .slice none 0 0, .slice none 0 0, iv 0, iv 0] 77 (ptr · 0) ha hS fun b18 w a hb19 hS ha => ?_);refine qY (jV 21 (qX 10 [iv 0, iv 0, .slice none 0 0, iv 0] 103 (ptr · 0) ha hS fun b20 w a hb21 hS ha => ?_));refine qY (jV 22 (o_sa 1 ha (xJ (t := 77) (x := 9) (y := 43)) hS fun w a hS ha => ?_));refine qY (jV 23 (o_sa 0 ha (xJ (t := 103) (x := 10) (y := 44)) hS fun w a hS ha => ?_));refine qY (qH ?_);replace ha := ha.as [(2, iv fuel), (3, ptr b1 0), (4, ptr b3 0), (6, ptr b5 0), (7, ptr b13 0), (8, iv (i : Int)), (9, ptr b18 0), (10, ptr b20 0)] rfl;replace hS : Sat w0 w ((SX.blk b20 [iv ((sR l fuel mode shd x9.1 x9.2).k), iv ((sR l fuel mode shd x9.1 x9.2).v), .slice tr1.A tr1.n tr1.c, iv ((sR l fuel mode shd x9.1 x9.2).m.made)] 103) :: (SX.blk b18 [.slice oj.A oj.n oj.c, .slice (some ⟨b9, 0, none⟩) 0 0, .slice sp1.A sp1.n sp1.c, iv cd, iv ((sR l fuel mode shd x9.1 x9.2).m.shared)] 77) :: (rI sp1 (sy ++ saysL (sR l fuel mode shd x9.1 x9.2).m.trace)) :: (rI os sy) :: (SX.blk b13 [.slice oj.A oj.n oj.c, .slice (some ⟨b9, 0, none⟩) 0 0, .slice os.A os.n os.c, iv cd, iv shd] 77) :: (rI oj jb) :: (rI (⟨some ⟨b9, 0, none⟩, 0, 0⟩ : Sl) []) :: (SX.blk b1 [.slice s.A s.n s.c] 35) :: (SX.blk b3 [.slice sj.A sj.n sj.c, .slice sh.A sh.n sh.c, iv mode] 39) :: (SX.blk b5 [.slice none 0 0, .slice none 0 0, .slice none 0 0, iv 0, iv 0] 77) :: []) := hS;exact jJ ⟨b18, b20, tr1, sp1, ha.keeps [2, 3, 4, 6, 7, 8, 9, 10] _ rfl, hS⟩
     refine id (qX 10 [iv 0, iv 0, .slice none 0 0, iv 0] 103 (ptr · 0) ha hS fun b22 w a hb23 hS ha => ?_);refine qY (jV 20 (qX 9 [.slice none 0 0, .slice none 0 0, .slice none 0 0, iv 0, iv 0] 77 (ptr · 0) ha hS fun b24 w a hb25 hS ha => ?_));refine qY (jV 22 (o_sa 0 ha (xJ (t := 77) (x := 9) (y := 43)) hS fun w a hS ha => ?_));refine qY (jV 23 (o_sa 1 ha (xJ (t := 103) (x := 10) (y := 44)) hS fun w a hS ha => ?_));refine qY (qH ?_);replace ha := ha.as [(2, iv fuel), (3, ptr b1 0), (4, ptr b3 0), (6, ptr b5 0), (7, ptr b13 0), (8, iv (i : Int)), (10, ptr b22 0), (9, ptr b24 0)] rfl;replace hS := hS.pickN 10 [1, 0, 2, 3, 4, 5, 6, 7, 8, 9];exact jJ ⟨b24, b22, tr1, sp1, ha.keeps [2, 3, 4, 6, 7, 8, 9, 10] _ rfl, hS⟩
    ·
     refine id (qX 9 [.slice none 0 0, .slice none 0 0, .slice none 0 0, iv 0, iv 0] 77 (ptr · 0) ha hS fun b26 w a hb27 hS ha => ?_);refine ⟨.inr (Sat.rest [_] hS), ?_⟩;refine d_all (rs := [16, 21]) (by kernel_rfl) (by simp) (forall_mem_2 ?_ ?_)
     ·
      replace hS := hS.pickN 8 [3, 0, 1, 2, 4, 5, 6, 7];refine id (qK 42 (vs := [.agg #[.slice s.A s.n s.c], .agg #[.slice sj.A sj.n sj.c, .slice sh.A sh.n sh.c, iv mode], iv x9.1, iv x9.2, iv fuel, .agg #[.slice oj.A oj.n oj.c, .slice (some ⟨b9, 0, none⟩) 0 0, .slice os.A os.n os.c, iv cd, iv shd]]) ha (one_sat (jh := ⟨some ⟨b9, 0, none⟩, 0, 0⟩) hS hr hask1 (by omega) hok.sh) fun v28 w a hp29 ha => ?_);obtain ⟨tr2, sp2, rfl, hS⟩ := hp29;refine qY (jZ (k := 3) [(17, 25, .tuple #[.agg #[.slice oj.A oj.n oj.c, .slice (some ⟨b9, 0, none⟩) 0 0, .slice sp2.A sp2.n sp2.c, iv cd, iv ((sR l fuel mode shd x9.1 x9.2).m.shared)], (oG ((sR l fuel mode shd x9.1 x9.2).k) ((sR l fuel mode shd x9.1 x9.2).v) tr2 ((sR l fuel mode shd x9.1 x9.2).m.made))]), (18, 43, .agg #[.slice oj.A oj.n oj.c, .slice (some ⟨b9, 0, none⟩) 0 0, .slice sp2.A sp2.n sp2.c, iv cd, iv ((sR l fuel mode shd x9.1 x9.2).m.shared)]), (19, 44, (oG ((sR l fuel mode shd x9.1 x9.2).k) ((sR l fuel mode shd x9.1 x9.2).v) tr2 ((sR l fuel mode shd x9.1 x9.2).m.made)))] ha (.inl (by kernel_rfl)) fun a ha => ?_);refine jV 21 (qX 10 [iv 0, iv 0, .slice none 0 0, iv 0] 103 (ptr · 0) ha hS fun b30 w a hb31 hS ha => ?_);refine qY (jV 22 (o_sa 3 ha (xJ (t := 77) (x := 9) (y := 43)) hS fun w a hS ha => ?_));refine qY (jV 23 (o_sa 0 ha (xJ (t := 103) (x := 10) (y := 44)) hS fun w a hS ha => ?_));refine qY (qH ?_);replace ha := ha.as [(2, iv fuel), (3, ptr b1 0), (4, ptr b3 0), (6, ptr b5 0), (7, ptr b13 0), (8, iv (i : Int)), (9, ptr b26 0), (10, ptr b30 0)] rfl;replace hS := hS.pickN 10 [0, 3, 1, 2, 4, 5, 6, 7, 8, 9];exact jJ ⟨b26, b30, tr2, sp2, ha.keeps [2, 3, 4, 6, 7, 8, 9, 10] _ rfl, hS⟩
     refine id (qX 10 [iv 0, iv 0, .slice none 0 0, iv 0] 103 (ptr · 0) ha hS fun b32 w a hb33 hS ha => ?_);refine ⟨.inr (Sat.rest [_, _] hS), ?_⟩;replace hS := hS.pickN 9 [4, 0, 1, 2, 3, 5, 6, 7, 8];refine jV 16 (qK 42 (vs := [.agg #[.slice s.A s.n s.c], .agg #[.slice sj.A sj.n sj.c, .slice sh.A sh.n sh.c, iv mode], iv x9.1, iv x9.2, iv fuel, .agg #[.slice oj.A oj.n oj.c, .slice (some ⟨b9, 0, none⟩) 0 0, .slice os.A os.n os.c, iv cd, iv shd]]) ha (one_sat (jh := ⟨some ⟨b9, 0, none⟩, 0, 0⟩) hS hr hask1 (by omega) hok.sh) fun v34 w a hp35 ha => ?_);obtain ⟨tr3, sp3, rfl, hS⟩ := hp35;refine qY (jZ (k := 2) [(17, 25, .tuple #[.agg #[.slice oj.A oj.n oj.c, .slice (some ⟨b9, 0, none⟩) 0 0, .slice sp3.A sp3.n sp3.c, iv cd, iv ((sR l fuel mode shd x9.1 x9.2).m.shared)], (oG ((sR l fuel mode shd x9.1 x9.2).k) ((sR l fuel mode shd x9.1 x9.2).v) tr3 ((sR l fuel mode shd x9.1 x9.2).m.made))]), (18, 43, .agg #[.slice oj.A oj.n oj.c, .slice (some ⟨b9, 0, none⟩) 0 0, .slice sp3.A sp3.n sp3.c, iv cd, iv ((sR l fuel mode shd x9.1 x9.2).m.shared)]), (19, 44, (oG ((sR l fuel mode shd x9.1 x9.2).k) ((sR l fuel mode shd x9.1 x9.2).v) tr3 ((sR l fuel mode shd x9.1 x9.2).m.made)))] ha (.inl (by kernel_rfl)) fun a ha => ?_);refine jV 22 (o_sa 3 ha (xJ (t := 77) (x := 9) (y := 43)) hS fun w a hS ha => ?_);refine qY (jV 23 (o_sa 2 ha (xJ (t := 103) (x := 10) (y := 44)) hS fun w a hS ha => ?_));refine qY (qH ?_);replace ha := ha.as [(2, iv fuel), (3, ptr b1 0), (4, ptr b3 0), (6, ptr b5 0), (7, ptr b13 0), (8, iv (i : Int)), (9, ptr b26 0), (10, ptr b32 0)] rfl;replace hS := hS.pickN 10 [2, 3, 0, 1, 4, 5, 6, 7, 8, 9];exact jJ ⟨b26, b32, tr3, sp3, ha.keeps [2, 3, 4, 6, 7, 8, 9, 10] _ rfl, hS⟩
    refine id (qX 10 [iv 0, iv 0, .slice none 0 0, iv 0] 103 (ptr · 0) ha hS fun b36 w a hb37 hS ha => ?_);refine ⟨.inr (Sat.rest [_] hS), ?_⟩;refine d_all (rs := [16, 20]) (by kernel_rfl) (by simp) (forall_mem_2 ?_ ?_)
    ·
     replace hS := hS.pickN 8 [3, 0, 1, 2, 4, 5, 6, 7];refine id (qK 42 (vs := [.agg #[.slice s.A s.n s.c], .agg #[.slice sj.A sj.n sj.c, .slice sh.A sh.n sh.c, iv mode], iv x9.1, iv x9.2, iv fuel, .agg #[.slice oj.A oj.n oj.c, .slice (some ⟨b9, 0, none⟩) 0 0, .slice os.A os.n os.c, iv cd, iv shd]]) ha (one_sat (jh := ⟨some ⟨b9, 0, none⟩, 0, 0⟩) hS hr hask1 (by omega) hok.sh) fun v38 w a hp39 ha => ?_);obtain ⟨tr4, sp4, rfl, hS⟩ := hp39;refine qY (jZ (k := 3) [(17, 25, .tuple #[.agg #[.slice oj.A oj.n oj.c, .slice (some ⟨b9, 0, none⟩) 0 0, .slice sp4.A sp4.n sp4.c, iv cd, iv ((sR l fuel mode shd x9.1 x9.2).m.shared)], (oG ((sR l fuel mode shd x9.1 x9.2).k) ((sR l fuel mode shd x9.1 x9.2).v) tr4 ((sR l fuel mode shd x9.1 x9.2).m.made))]), (18, 43, .agg #[.slice oj.A oj.n oj.c, .slice (some ⟨b9, 0, none⟩) 0 0, .slice sp4.A sp4.n sp4.c, iv cd, iv ((sR l fuel mode shd x9.1 x9.2).m.shared)]), (19, 44, (oG ((sR l fuel mode shd x9.1 x9.2).k) ((sR l fuel mode shd x9.1 x9.2).v) tr4 ((sR l fuel mode shd x9.1 x9.2).m.made)))] ha (.inl (by kernel_rfl)) fun a ha => ?_);refine jV 20 (qX 9 [.slice none 0 0, .slice none 0 0, .slice none 0 0, iv 0, iv 0] 77 (ptr · 0) ha hS fun b40 w a hb41 hS ha => ?_);refine qY (jV 22 (o_sa 0 ha (xJ (t := 77) (x := 9) (y := 43)) hS fun w a hS ha => ?_));refine qY (jV 23 (o_sa 3 ha (xJ (t := 103) (x := 10) (y := 44)) hS fun w a hS ha => ?_));refine qY (qH ?_);replace ha := ha.as [(2, iv fuel), (3, ptr b1 0), (4, ptr b3 0), (6, ptr b5 0), (7, ptr b13 0), (8, iv (i : Int)), (10, ptr b36 0), (9, ptr b40 0)] rfl;replace hS := hS.pickN 10 [3, 0, 1, 2, 4, 5, 6, 7, 8, 9];exact jJ ⟨b40, b36, tr4, sp4, ha.keeps [2, 3, 4, 6, 7, 8, 9, 10] _ rfl, hS⟩
    refine id (qX 9 [.slice none 0 0, .slice none 0 0, .slice none 0 0, iv 0, iv 0] 77 (ptr · 0) ha hS fun b42 w a hb43 hS ha => ?_);refine ⟨.inr (Sat.rest [_, _] hS), ?_⟩;replace hS := hS.pickN 9 [4, 0, 1, 2, 3, 5, 6, 7, 8];refine jV 16 (qK 42 (vs := [.agg #[.slice s.A s.n s.c], .agg #[.slice sj.A sj.n sj.c, .slice sh.A sh.n sh.c, iv mode], iv x9.1, iv x9.2, iv fuel, .agg #[.slice oj.A oj.n oj.c, .slice (some ⟨b9, 0, none⟩) 0 0, .slice os.A os.n os.c, iv cd, iv shd]]) ha (one_sat (jh := ⟨some ⟨b9, 0, none⟩, 0, 0⟩) hS hr hask1 (by omega) hok.sh) fun v44 w a hp45 ha => ?_);obtain ⟨tr5, sp5, rfl, hS⟩ := hp45;refine qY (jZ (k := 2) [(17, 25, .tuple #[.agg #[.slice oj.A oj.n oj.c, .slice (some ⟨b9, 0, none⟩) 0 0, .slice sp5.A sp5.n sp5.c, iv cd, iv ((sR l fuel mode shd x9.1 x9.2).m.shared)], (oG ((sR l fuel mode shd x9.1 x9.2).k) ((sR l fuel mode shd x9.1 x9.2).v) tr5 ((sR l fuel mode shd x9.1 x9.2).m.made))]), (18, 43, .agg #[.slice oj.A oj.n oj.c, .slice (some ⟨b9, 0, none⟩) 0 0, .slice sp5.A sp5.n sp5.c, iv cd, iv ((sR l fuel mode shd x9.1 x9.2).m.shared)]), (19, 44, (oG ((sR l fuel mode shd x9.1 x9.2).k) ((sR l fuel mode shd x9.1 x9.2).v) tr5 ((sR l fuel mode shd x9.1 x9.2).m.made)))] ha (.inl (by kernel_rfl)) fun a ha => ?_);refine jV 22 (o_sa 2 ha (xJ (t := 77) (x := 9) (y := 43)) hS fun w a hS ha => ?_);refine qY (jV 23 (o_sa 3 ha (xJ (t := 103) (x := 10) (y := 44)) hS fun w a hS ha => ?_));refine qY (qH ?_);replace ha := ha.as [(2, iv fuel), (3, ptr b1 0), (4, ptr b3 0), (6, ptr b5 0), (7, ptr b13 0), (8, iv (i : Int)), (10, ptr b36 0), (9, ptr b42 0)] rfl;replace hS := hS.pickN 10 [3, 2, 0, 1, 4, 5, 6, 7, 8, 9];exact jJ ⟨b42, b36, tr5, sp5, ha.keeps [2, 3, 4, 6, 7, 8, 9, 10] _ rfl, hS⟩
   rintro a w ⟨g1_0, g1_1, g1_2, g1_3, ha, hS⟩
   refine wp_seq (jX [0, 1] (yG 45 ha (hS.blk 1 rfl) fun a ha => ?_));refine jK (o_sa 4 ha (xJ (t := 77) (x := 7) (y := 45)) hS fun w a hS ha => ?_);refine jY (jJ (kV (J := fun a_ w_ => ∃ (g2_0 : Nat) (g2_1 : Sl), Has 110 [(2, iv fuel), (3, ptr b1 0), (4, ptr b3 0), (6, ptr b5 0), (7, ptr b13 0), (8, iv (i : Int)), (10, ptr g1_1 0)] a_ ∧ Sat w0 w_ ((SX.blk g2_0 [iv ((sR l fuel mode shd x9.1 x9.2).k)] 3) :: (rI g2_1 (jb ++ [(sR l fuel mode shd x9.1 x9.2).k])) :: (rI oj jb) :: (SX.blk g1_1 [iv ((sR l fuel mode shd x9.1 x9.2).k), iv ((sR l fuel mode shd x9.1 x9.2).v), .slice g1_2.A g1_2.n g1_2.c, iv ((sR l fuel mode shd x9.1 x9.2).m.made)] 103) :: (SX.blk g1_0 [.slice oj.A oj.n oj.c, .slice (some ⟨b9, 0, none⟩) 0 0, .slice g1_3.A g1_3.n g1_3.c, iv cd, iv ((sR l fuel mode shd x9.1 x9.2).m.shared)] 77) :: (rI g1_3 (sy ++ saysL (sR l fuel mode shd x9.1 x9.2).m.trace)) :: (rI os sy) :: (SX.blk b13 [.slice g2_1.A g2_1.n g2_1.c, .slice (some ⟨b9, 0, none⟩) 0 0, .slice g1_3.A g1_3.n g1_3.c, iv cd, iv ((sR l fuel mode shd x9.1 x9.2).m.shared)] 77) :: (rI (⟨some ⟨b9, 0, none⟩, 0, 0⟩ : Sl) []) :: (SX.blk b1 [.slice s.A s.n s.c] 35) :: (SX.blk b3 [.slice sj.A sj.n sj.c, .slice sh.A sh.n sh.c, iv mode] 39) :: (SX.blk b5 [.slice none 0 0, .slice none 0 0, .slice none 0 0, iv 0, iv 0] 77) :: [])) ?_ ?_))
   ·
    refine xX 8 9 (hS.pickN 10 [0, 1, 4, 7, 8, 9]) hS fun w hS => ?_;refine jZ (k := 8) [(0, 46, ptr b13 0)] ha (.inr (hS.pickN 10 [0, 1, 4, 7, 8, 9])) fun a ha => ?_;refine qV 1 (d := 47) (b := b13) (j := 0) ha (hS.pickN 10 [0, 1, 4, 7, 8, 9]) (fun _ hw => hw.blk 2 rfl) rfl fun a ha => ?_;refine jZ (k := 6) [(3, 49, ptr g1_1 0)] ha (.inr (hS.pickN 10 [0, 1, 4, 7, 8, 9])) fun a ha => ?_;refine qV 4 (d := 50) (b := g1_1) (j := 0) ha (hS.pickN 10 [0, 1, 4, 7, 8, 9]) (fun _ hw => hw.blk 0 rfl) rfl fun a ha => ?_;refine d_all (rs := [2, 5]) (by kernel_rfl) (by simp) (forall_mem_2 ?_ ?_)
    ·
     replace hS := hS.pickN 10 [5, 0, 1, 2, 3, 4, 6, 7, 8, 9];refine id (qK 48 (vs := [.slice oj.A oj.n oj.c]) ha (own_sat hS (by omega)) fun v46 w a hp47 ha => ?_);obtain ⟨sp6, rfl, hS⟩ := hp47;refine ⟨.inr (hS.pickN 11 [2, 3, 6, 8, 9, 10]), ?_⟩;refine jV 5 (qX 51 [iv ((sR l fuel mode shd x9.1 x9.2).k)] 3 (fun b => .slice (some ⟨b, 0, none⟩) 1 1) ha hS fun b48 w a hb49 hS ha => ?_);refine ⟨.inr (hS.pickN 12 [3, 4, 7, 9, 10, 11]), ?_⟩;refine jV 6 (o_ap 52 1 0 (encI (jb ++ [(sR l fuel mode shd x9.1 x9.2).k])) ha hS rfl rfl (by rw [encI_length]; simp only [List.length_cons, List.length_nil]; omega) (encI_snoc _ _) fun s53 w a hS hn54 ha => ?_);refine ⟨.inr (hS.pickN 12 [3, 4, 7, 9, 10, 11]), ?_⟩;refine jZ (k := 1) [(7, 53, ptr b13 0)] ha (.inr (hS.pickN 12 [3, 4, 7, 9, 10, 11])) fun a ha => ?_;refine jV 8 (xY b13 0 (.slice s53.A s53.n s53.c) 7 ha hS rfl rfl fun w a hS ha => ?_);refine qY (qH ?_);replace hS : Sat w0 w ((SX.blk b48 [iv ((sR l fuel mode shd x9.1 x9.2).k)] 3) :: (rI s53 (jb ++ [(sR l fuel mode shd x9.1 x9.2).k])) :: (rI oj jb) :: (SX.blk g1_1 [iv ((sR l fuel mode shd x9.1 x9.2).k), iv ((sR l fuel mode shd x9.1 x9.2).v), .slice g1_2.A g1_2.n g1_2.c, iv ((sR l fuel mode shd x9.1 x9.2).m.made)] 103) :: (SX.blk g1_0 [.slice oj.A oj.n oj.c, .slice (some ⟨b9, 0, none⟩) 0 0, .slice g1_3.A g1_3.n g1_3.c, iv cd, iv ((sR l fuel mode shd x9.1 x9.2).m.shared)] 77) :: (rI g1_3 (sy ++ saysL (sR l fuel mode shd x9.1 x9.2).m.trace)) :: (rI os sy) :: (SX.blk b13 [.slice s53.A s53.n s53.c, .slice (some ⟨b9, 0, none⟩) 0 0, .slice g1_3.A g1_3.n g1_3.c, iv cd, iv ((sR l fuel mode shd x9.1 x9.2).m.shared)] 77) :: (rI (⟨some ⟨b9, 0, none⟩, 0, 0⟩ : Sl) []) :: (SX.blk b1 [.slice s.A s.n s.c] 35) :: (SX.blk b3 [.slice sj.A sj.n sj.c, .slice sh.A sh.n sh.c, iv mode] 39) :: (SX.blk b5 [.slice none 0 0, .slice none 0 0, .slice none 0 0, iv 0, iv 0] 77) :: []) := hS;exact jJ ⟨b48, s53, ha.keeps [2, 3, 4, 6, 7, 8, 10] _ rfl, hS⟩
    refine id (qX 51 [iv ((sR l fuel mode shd x9.1 x9.2).k)] 3 (fun b => .slice (some ⟨b, 0, none⟩) 1 1) ha hS fun b55 w a hb56 hS ha => ?_);refine ⟨.inr (hS.pickN 11 [1, 2, 5, 8, 9, 10]), ?_⟩;replace hS := hS.pickN 11 [6, 0, 1, 2, 3, 4, 5, 7, 8, 9, 10];refine jV 2 (qK 48 (vs := [.slice oj.A oj.n oj.c]) ha (own_sat hS (by omega)) fun v57 w a hp58 ha => ?_);obtain ⟨sp7, rfl, hS⟩ := hp58;refine ⟨.inr (hS.pickN 12 [3, 4, 7, 9, 10, 11]), ?_⟩;refine jV 6 (o_ap 52 0 2 (encI (jb ++ [(sR l fuel mode shd x9.1 x9.2).k])) ha hS rfl rfl (by rw [encI_length]; simp only [List.length_cons, List.length_nil]; omega) (encI_snoc _ _) fun s62 w a hS hn63 ha => ?_);refine ⟨.inr (hS.pickN 12 [3, 4, 7, 9, 10, 11]), ?_⟩;refine jZ (k := 1) [(7, 53, ptr b13 0)] ha (.inr (hS.pickN 12 [3, 4, 7, 9, 10, 11])) fun a ha => ?_;refine jV 8 (xY b13 0 (.slice s62.A s62.n s62.c) 7 ha hS rfl rfl fun w a hS ha => ?_);refine qY (qH ?_);replace hS := hS.pickN 12 [2, 0, 1, 3, 4, 5, 6, 7, 8, 9, 10, 11];exact jJ ⟨b55, s62, ha.keeps [2, 3, 4, 6, 7, 8, 10] _ rfl, hS⟩
   rintro a w ⟨g2_0, g2_1, ha, hS⟩
   refine wp_seq (xX 6 7 (hS.pickN 12 [0, 3, 4, 7, 9, 10, 11]) hS fun w hS => ?_);refine jZ (k := 6) [(0, 54, ptr b13 3)] ha (.inr (hS.pickN 12 [0, 3, 4, 7, 9, 10, 11])) fun a ha => ?_;refine qV 1 (d := 55) (b := b13) (j := 3) ha (hS.pickN 12 [0, 3, 4, 7, 9, 10, 11]) (fun _ hw => hw.blk 3 rfl) rfl fun a ha => ?_;refine xK 2 56 ha (hS.pickN 12 [0, 3, 4, 7, 9, 10, 11]) (fun _ hw => hw.blk 1 rfl) fun a ha => ?_;have hcl := codeOf_le ((sR l fuel mode shd x9.1 x9.2).k) ((sR l fuel mode shd x9.1 x9.2).v);refine jV 3 (qK 57 (vs := [(oG ((sR l fuel mode shd x9.1 x9.2).k) ((sR l fuel mode shd x9.1 x9.2).v) g1_2 ((sR l fuel mode shd x9.1 x9.2).m.made))]) ha (l10Code_sat hS (sR_k hask1)) fun v64 w a hp65 ha => ?_);obtain ⟨rfl, hS⟩ := hp65;refine ⟨.inr (hS.pickN 12 [0, 3, 4, 7, 9, 10, 11]), ?_⟩;refine jV 4 (qK 58 (vs := [iv cd, iv (codeOf ((sR l fuel mode shd x9.1 x9.2).k) ((sR l fuel mode shd x9.1 x9.2).v))]) ha (most_sat hS _ _) fun v66 w a hp67 ha => ?_);obtain ⟨rfl, hS⟩ := hp67;refine ⟨.inr (hS.pickN 12 [0, 3, 4, 7, 9, 10, 11]), ?_⟩;refine jZ (k := 1) [(5, 59, ptr b13 3)] ha (.inr (hS.pickN 12 [0, 3, 4, 7, 9, 10, 11])) fun a ha => ?_;refine jV 6 (xY b13 3 (iv (max cd (codeOf ((sR l fuel mode shd x9.1 x9.2).k) ((sR l fuel mode shd x9.1 x9.2).v)))) 7 ha hS rfl rfl fun w a hS ha => ?_);refine qY (qH (jJ (wp_seq (jX [0, 1, 2, 3, 4, 5, 6, 7] (jQ [(0, 60, ptr b3 2)] ha fun a ha => ?_)))));refine jG (d := 61) (b := b3) (j := 2) ha (hS.blk 10 rfl) rfl fun a ha => ?_;refine jQ [(2, 62, .bool (decide (mode = 2))), (3, 63, .bool (decide (mode = 2)))] ha fun a ha => ?_
   by_cases c68 : mode = 2
   ·
    replace ha := ha.turn 62 (.bool true) rfl (congrArg Value.bool (decide_eq_true c68));replace ha := ha.turn 63 (.bool true) rfl (congrArg Value.bool (decide_eq_true c68));refine jQ [(4, 64, ptr g1_1 0)] ha fun a ha => ?_;refine jG (d := 65) (b := g1_1) (j := 0) ha (hS.blk 3 rfl) rfl fun a ha => ?_;refine jQ [(6, 66, .bool (!(decide (((sR l fuel mode shd x9.1 x9.2).k) = 1)))), (7, 67, .bool (!(decide (((sR l fuel mode shd x9.1 x9.2).k) = 1))))] ha fun a ha => ?_;refine jY (jJ ?_)
    by_cases c69 : ((sR l fuel mode shd x9.1 x9.2).k) = 1
    ·
     refine jW ha rfl (yX (decide_eq_true c69)) ?_;refine wp_skip (in_n (jJ (jX [0, 1, 2] (jQ [(0, 23, iv (i : Int))] ha fun a ha => ?_))));refine zX 24 ((i : Int) + 1) ha fun a ha => ?_;refine jQ [(2, 8, iv ((i : Int) + 1))] ha fun a ha => ?_;refine jY (jJ ?_);replace hS := hS.pickN 12 [7, 1, 5, 8, 9, 10, 11];exact ⟨_, by omega, i + 1, (jb ++ [(sR l fuel mode shd x9.1 x9.2).k]), (sy ++ saysL (sR l fuel mode shd x9.1 x9.2).m.trace), (max cd (codeOf ((sR l fuel mode shd x9.1 x9.2).k) ((sR l fuel mode shd x9.1 x9.2).v))), ((sR l fuel mode shd x9.1 x9.2).m.shared), g2_1, g1_3, rfl, by omega, sJobs_next hx9 hq (fun h => h.2 c69), hok.job hask1, ha.keeps [2, 3, 4, 6, 7, 8] _ rfl, hS⟩
    refine jU ha rfl (zY (decide_eq_false c69)) ?_;refine wp_exit (in_xo (by decide) ?_);refine xV (xV (in_x ?_));replace hS := hS.pickN 12 [7, 1, 5, 8, 9, 10, 11];exact jJ ⟨(jb ++ [(sR l fuel mode shd x9.1 x9.2).k]), (sy ++ saysL (sR l fuel mode shd x9.1 x9.2).m.trace), (max cd (codeOf ((sR l fuel mode shd x9.1 x9.2).k) ((sR l fuel mode shd x9.1 x9.2).v))), ((sR l fuel mode shd x9.1 x9.2).m.shared), g2_1, g1_3, sJobs_stop hx9 hq ⟨c68, c69⟩, (hok.job hask1).mono (by omega), ha.keeps [2, 3, 4, 6, 7] _ rfl, hS⟩
   replace ha := ha.turn 62 (.bool false) rfl (congrArg Value.bool (decide_eq_false c68));replace ha := ha.turn 63 (.bool false) rfl (congrArg Value.bool (decide_eq_false c68));refine jQ [(4, 64, undef), (5, 65, undef), (6, 66, undef), (7, 67, .bool false)] ha fun a ha => ?_;refine jY (jJ ?_);refine jW ha rfl rfl ?_;refine wp_skip (in_n (jJ (jX [0, 1, 2] (jQ [(0, 23, iv (i : Int))] ha fun a ha => ?_))));refine zX 24 ((i : Int) + 1) ha fun a ha => ?_;refine jQ [(2, 8, iv ((i : Int) + 1))] ha fun a ha => ?_;refine jY (jJ ?_);replace hS := hS.pickN 12 [7, 1, 5, 8, 9, 10, 11];exact ⟨_, by omega, i + 1, (jb ++ [(sR l fuel mode shd x9.1 x9.2).k]), (sy ++ saysL (sR l fuel mode shd x9.1 x9.2).m.trace), (max cd (codeOf ((sR l fuel mode shd x9.1 x9.2).k) ((sR l fuel mode shd x9.1 x9.2).v))), ((sR l fuel mode shd x9.1 x9.2).m.shared), g2_1, g1_3, rfl, by omega, sJobs_next hx9 hq (fun h => c68 h.1), hok.job hask1, ha.keeps [2, 3, 4, 6, 7, 8] _ rfl, hS⟩
  refine jW ha rfl (decide_eq_false c15) ?_
  refine wp_exit (xV (xV (in_x ?_)))
  replace hS : Sat w0 w ((SX.blk b13 [.slice oj.A oj.n oj.c, .slice (some ⟨b9, 0, none⟩) 0 0, .slice os.A os.n os.c, iv cd, iv shd] 77) :: (rI oj jb) :: (rI os sy) :: (rI (⟨some ⟨b9, 0, none⟩, 0, 0⟩ : Sl) []) :: (SX.blk b1 [.slice s.A s.n s.c] 35) :: (SX.blk b3 [.slice sj.A sj.n sj.c, .slice sh.A sh.n sh.c, iv mode] 39) :: (SX.blk b5 [.slice none 0 0, .slice none 0 0, .slice none 0 0, iv 0, iv 0] 77) :: []) := hS
  exact jJ ⟨jb, sy, cd, shd, oj, os, sJobs_end (by omega) hq, hok.mono (by omega), ha.keeps [2, 3, 4, 6, 7] _ rfl, hS⟩
 rintro a w ⟨jb, sy, cd, shd, oj, os, hJ, hok, ha, hS⟩
 have hb9 := hok.le
 dsimp only at hb9
 refine wp_seq (wp_seq (jX [0, 1, 2, 3, 4] (jQ [(0, 68, ptr b3 1)] ha fun a ha => ?_)))
 refine jG (d := 69) (b := b3) (j := 1) ha (hS.blk 5 rfl) rfl fun a ha => ?_
 refine jQ [(2, 70, iv (sh.n : Int))] ha fun a ha => ?_
 refine zX 71 ((sh.n : Int) - 1) ha fun a ha => ?_
 refine jQ [(4, 11, iv ((sh.n : Int) - 1))] ha fun a ha => ?_
 refine jY (jJ (wp_block ?_))
 replace hS := hS.pickN 7 [0, 1, 3, 2, 4, 5, 6]
 refine wp_loop_ghost (fun n_ a_ w_ => ∃ (j : Nat) (kk : Int) (hk : List Int) (sy2 : List Int) (cd2 : Int) (sh2 : Int) (oh : Sl) (os2 : Sl), n_ = hs.length - j ∧ (j ≤ hs.length) ∧ (kk = (hs.length : Int) - 1 - (j : Int)) ∧ ((⟨jb, hk, sy2, cd2, sh2⟩ : SN) = sHooks l fuel mode (bwd hs j) (⟨jb, [], sy, cd, shd⟩ : SN)) ∧ (SOk (⟨jb, hk, sy2, cd2, sh2⟩ : SN) (12 + j)) ∧ Has 110 [(2, iv fuel), (3, ptr b1 0), (4, ptr b3 0), (6, ptr b5 0), (7, ptr b13 0), (11, iv kk)] a_ ∧ Sat w0 w_ ((SX.blk b13 [.slice oj.A oj.n oj.c, .slice oh.A oh.n oh.c, .slice os2.A os2.n os2.c, iv cd2, iv sh2] 77) :: (rI oj jb) :: (rI oh hk) :: (rI os2 sy2) :: (SX.blk b1 [.slice s.A s.n s.c] 35) :: (SX.blk b3 [.slice sj.A sj.n sj.c, .slice sh.A sh.n sh.c, iv mode] 39) :: (SX.blk b5 [.slice none 0 0, .slice none 0 0, .slice none 0 0, iv 0, iv 0] 77) :: [])) _ ⟨0, (sh.n : Int) - 1, [], sy, cd, shd, ⟨some ⟨b9, 0, none⟩, 0, 0⟩, os, rfl, Nat.zero_le _, by omega, rfl, hok, ha.keeps [2, 3, 4, 6, 7, 11] _ rfl, hS⟩ ?_
 rintro n_ a w ⟨j, kk, hk, sy2, cd2, sh2, oh, os2, rfl, hj, hkk, hq2, hok2, ha, hS⟩
 have hb8 := hok2.le
 dsimp only at hb8
 refine wp_seq (wp_seq (jX [0, 1] (jQ [(0, 72, iv kk), (1, 73, .bool (decide (kk ≥ 0)))] ha fun a ha => ?_)))
 refine jY (jJ ?_)
 by_cases c70 : kk ≥ 0
 ·
  obtain ⟨q9, hkq⟩ : ∃ q : Nat, kk = (q : Int) := ⟨kk.toNat, by omega⟩
  have hq9 : q9 + 1 + j = hs.length := by omega
  obtain ⟨v, hjv⟩ : ∃ x, hs[q9]? = some x := ⟨_, List.getElem?_eq_getElem (by omega)⟩
  have hask9 := play_hook hP hjv hb8.1.1 hb8.1.2
  refine jU ha rfl (decide_eq_true c70) ?_
  refine wp_skip (jJ (wp_seq (wp_block (kV (J := fun a_ w_ => ∃ (g3_0 : Nat) (g3_1 : Nat) (g3_2 : Sl) (g3_3 : Sl), Has 110 [(2, iv fuel), (3, ptr b1 0), (4, ptr b3 0), (6, ptr b5 0), (7, ptr b13 0), (11, iv kk), (12, ptr g3_0 0), (13, ptr g3_1 0)] a_ ∧ Sat w0 w_ ((SX.blk g3_1 [iv ((sR l fuel mode sh2 v cd2).k), iv ((sR l fuel mode sh2 v cd2).v), .slice g3_2.A g3_2.n g3_2.c, iv ((sR l fuel mode sh2 v cd2).m.made)] 103) :: (SX.blk g3_0 [.slice oj.A oj.n oj.c, .slice oh.A oh.n oh.c, .slice g3_3.A g3_3.n g3_3.c, iv cd2, iv ((sR l fuel mode sh2 v cd2).m.shared)] 77) :: (rI g3_3 (sy2 ++ saysL (sR l fuel mode sh2 v cd2).m.trace)) :: (rI os2 sy2) :: (SX.blk b13 [.slice oj.A oj.n oj.c, .slice oh.A oh.n oh.c, .slice os2.A os2.n os2.c, iv cd2, iv sh2] 77) :: (rI oj jb) :: (rI oh hk) :: (SX.blk b1 [.slice s.A s.n s.c] 35) :: (SX.blk b3 [.slice sj.A sj.n sj.c, .slice sh.A sh.n sh.c, iv mode] 39) :: (SX.blk b5 [.slice none 0 0, .slice none 0 0, .slice none 0 0, iv 0, iv 0] 77) :: [])) ?_ ?_))))
  ·
   refine xW 11 19 hS fun w hS => ?_;refine xK 0 77 ha hS (fun _ hw => hw.blk 4 rfl) fun a ha => ?_;refine xK 1 78 ha hS (fun _ hw => hw.blk 5 rfl) fun a ha => ?_;refine jZ (k := 16) [(2, 79, ptr b3 1)] ha (.inr hS) fun a ha => ?_;refine d_ldN 3 (d := 80) (b := b3) (j := 1) ha hS (fun _ hw => hw.blk 5 rfl) rfl fun a ha => ?_;refine jZ (k := 14) [(4, 81, iv kk)] ha (.inr hS) fun a ha => ?_;refine yZ 5 (.pointer (some ⟨bk sh, of_ sh + q9 * 1, none⟩)) ha (kX (el := 3) (sz := 1) (j := q9) ha (yW (t := 26) (x := 80) (y := 81) (d := 82)) rfl rfl (by kernel_rfl) (by kernel_rfl) ((hrh.sat hS).at_ ((List.getElem?_eq_some_iff.1 hjv).1)).1 (hkq) (by rw [((hrh.sat hS)).len]; exact (List.getElem?_eq_some_iff.1 hjv).1)) (.inr hS) fun a ha => ?_;refine zH 6 (iv v) ha (zK (p := ⟨bk sh, of_ sh + q9 * 1, none⟩) ha (zZ (t := 3) (x := 82) (d := 83) (ty := 3)) rfl (by kernel_rfl) (fun w' hw => by rw [Nat.mul_one, ← getD_is hjv]; exact (((hrh.sat hw)).at_ ((List.getElem?_eq_some_iff.1 hjv).1)).2)) hS fun a ha => ?_;refine jZ (k := 11) [(7, 84, ptr b13 3)] ha (.inr hS) fun a ha => ?_;refine qV 8 (d := 85) (b := b13) (j := 3) ha hS (fun _ hw => hw.blk 0 rfl) rfl fun a ha => ?_;refine jZ (k := 9) [(9, 86, iv fuel)] ha (.inr hS) fun a ha => ?_;refine xK 10 87 ha hS (fun _ hw => hw.blk 0 rfl) fun a ha => ?_;refine d_all (rs := [11, 15, 16]) (by kernel_rfl) (by simp) (forall_mem_3 ?_ ?_ ?_)
   ·
    replace hS := hS.pickN 7 [3, 0, 1, 2, 4, 5, 6];refine id (qK 88 (vs := [.agg #[.slice s.A s.n s.c], .agg #[.slice sj.A sj.n sj.c, .slice sh.A sh.n sh.c, iv mode], iv v, iv cd2, iv fuel, .agg #[.slice oj.A oj.n oj.c, .slice oh.A oh.n oh.c, .slice os2.A os2.n os2.c, iv cd2, iv sh2]]) ha (one_sat hS hr hask9 (by omega) hok2.sh) fun v71 w a hp72 ha => ?_);obtain ⟨tr6, sp8, rfl, hS⟩ := hp72;refine qY (jZ (k := 4) [(12, 76, .tuple #[.agg #[.slice oj.A oj.n oj.c, .slice oh.A oh.n oh.c, .slice sp8.A sp8.n sp8.c, iv cd2, iv ((sR l fuel mode sh2 v cd2).m.shared)], (oG ((sR l fuel mode sh2 v cd2).k) ((sR l fuel mode sh2 v cd2).v) tr6 ((sR l fuel mode sh2 v cd2).m.made))]), (13, 89, .agg #[.slice oj.A oj.n oj.c, .slice oh.A oh.n oh.c, .slice sp8.A sp8.n sp8.c, iv cd2, iv ((sR l fuel mode sh2 v cd2).m.shared)]), (14, 90, (oG ((sR l fuel mode sh2 v cd2).k) ((sR l fuel mode sh2 v cd2).v) tr6 ((sR l fuel mode sh2 v cd2).m.made)))] ha (.inl (by kernel_rfl)) fun a ha => ?_);refine d_all (rs := [15, 16]) (by kernel_rfl) (by simp) (forall_mem_2 ?_ ?_)
    ·
     refine id (qX 12 [.slice none 0 0, .slice none 0 0, .slice none 0 0, iv 0, iv 0] 77 (ptr · 0) ha hS fun b73 w a hb74 hS ha => ?_);refine qY (jV 16 (qX 13 [iv 0, iv 0, .slice none 0 0, iv 0] 103 (ptr · 0) ha hS fun b75 w a hb76 hS ha => ?_));refine qY (jV 17 (o_sa 1 ha (xJ (t := 77) (x := 12) (y := 89)) hS fun w a hS ha => ?_));refine qY (jV 18 (o_sa 0 ha (xJ (t := 103) (x := 13) (y := 90)) hS fun w a hS ha => ?_));refine qY (qH ?_);replace ha := ha.as [(2, iv fuel), (3, ptr b1 0), (4, ptr b3 0), (6, ptr b5 0), (7, ptr b13 0), (11, iv kk), (12, ptr b73 0), (13, ptr b75 0)] rfl;replace hS : Sat w0 w ((SX.blk b75 [iv ((sR l fuel mode sh2 v cd2).k), iv ((sR l fuel mode sh2 v cd2).v), .slice tr6.A tr6.n tr6.c, iv ((sR l fuel mode sh2 v cd2).m.made)] 103) :: (SX.blk b73 [.slice oj.A oj.n oj.c, .slice oh.A oh.n oh.c, .slice sp8.A sp8.n sp8.c, iv cd2, iv ((sR l fuel mode sh2 v cd2).m.shared)] 77) :: (rI sp8 (sy2 ++ saysL (sR l fuel mode sh2 v cd2).m.trace)) :: (rI os2 sy2) :: (SX.blk b13 [.slice oj.A oj.n oj.c, .slice oh.A oh.n oh.c, .slice os2.A os2.n os2.c, iv cd2, iv sh2] 77) :: (rI oj jb) :: (rI oh hk) :: (SX.blk b1 [.slice s.A s.n s.c] 35) :: (SX.blk b3 [.slice sj.A sj.n sj.c, .slice sh.A sh.n sh.c, iv mode] 39) :: (SX.blk b5 [.slice none 0 0, .slice none 0 0, .slice none 0 0, iv 0, iv 0] 77) :: []) := hS;exact jJ ⟨b73, b75, tr6, sp8, ha.keeps [2, 3, 4, 6, 7, 11, 12, 13] _ rfl, hS⟩
    refine id (qX 13 [iv 0, iv 0, .slice none 0 0, iv 0] 103 (ptr · 0) ha hS fun b77 w a hb78 hS ha => ?_);refine qY (jV 15 (qX 12 [.slice none 0 0, .slice none 0 0, .slice none 0 0, iv 0, iv 0] 77 (ptr · 0) ha hS fun b79 w a hb80 hS ha => ?_));refine qY (jV 17 (o_sa 0 ha (xJ (t := 77) (x := 12) (y := 89)) hS fun w a hS ha => ?_));refine qY (jV 18 (o_sa 1 ha (xJ (t := 103) (x := 13) (y := 90)) hS fun w a hS ha => ?_));refine qY (qH ?_);replace ha := ha.as [(2, iv fuel), (3, ptr b1 0), (4, ptr b3 0), (6, ptr b5 0), (7, ptr b13 0), (11, iv kk), (13, ptr b77 0), (12, ptr b79 0)] rfl;replace hS := hS.pickN 10 [1, 0, 2, 3, 4, 5, 6, 7, 8, 9];exact jJ ⟨b79, b77, tr6, sp8, ha.keeps [2, 3, 4, 6, 7, 11, 12, 13] _ rfl, hS⟩
   ·
    refine id (qX 12 [.slice none 0 0, .slice none 0 0, .slice none 0 0, iv 0, iv 0] 77 (ptr · 0) ha hS fun b81 w a hb82 hS ha => ?_);refine ⟨.inr (Sat.rest [_] hS), ?_⟩;refine d_all (rs := [11, 16]) (by kernel_rfl) (by simp) (forall_mem_2 ?_ ?_)
    ·
     replace hS := hS.pickN 8 [4, 0, 1, 2, 3, 5, 6, 7];refine id (qK 88 (vs := [.agg #[.slice s.A s.n s.c], .agg #[.slice sj.A sj.n sj.c, .slice sh.A sh.n sh.c, iv mode], iv v, iv cd2, iv fuel, .agg #[.slice oj.A oj.n oj.c, .slice oh.A oh.n oh.c, .slice os2.A os2.n os2.c, iv cd2, iv sh2]]) ha (one_sat hS hr hask9 (by omega) hok2.sh) fun v83 w a hp84 ha => ?_);obtain ⟨tr7, sp9, rfl, hS⟩ := hp84;refine qY (jZ (k := 3) [(12, 76, .tuple #[.agg #[.slice oj.A oj.n oj.c, .slice oh.A oh.n oh.c, .slice sp9.A sp9.n sp9.c, iv cd2, iv ((sR l fuel mode sh2 v cd2).m.shared)], (oG ((sR l fuel mode sh2 v cd2).k) ((sR l fuel mode sh2 v cd2).v) tr7 ((sR l fuel mode sh2 v cd2).m.made))]), (13, 89, .agg #[.slice oj.A oj.n oj.c, .slice oh.A oh.n oh.c, .slice sp9.A sp9.n sp9.c, iv cd2, iv ((sR l fuel mode sh2 v cd2).m.shared)]), (14, 90, (oG ((sR l fuel mode sh2 v cd2).k) ((sR l fuel mode sh2 v cd2).v) tr7 ((sR l fuel mode sh2 v cd2).m.made)))] ha (.inl (by kernel_rfl)) fun a ha => ?_);refine jV 16 (qX 13 [iv 0, iv 0, .slice none 0 0, iv 0] 103 (ptr · 0) ha hS fun b85 w a hb86 hS ha => ?_);refine qY (jV 17 (o_sa 3 ha (xJ (t := 77) (x := 12) (y := 89)) hS fun w a hS ha => ?_));refine qY (jV 18 (o_sa 0 ha (xJ (t := 103) (x := 13) (y := 90)) hS fun w a hS ha => ?_));refine qY (qH ?_);replace ha := ha.as [(2, iv fuel), (3, ptr b1 0), (4, ptr b3 0), (6, ptr b5 0), (7, ptr b13 0), (11, iv kk), (12, ptr b81 0), (13, ptr b85 0)] rfl;replace hS := hS.pickN 10 [0, 3, 1, 2, 4, 5, 6, 7, 8, 9];exact jJ ⟨b81, b85, tr7, sp9, ha.keeps [2, 3, 4, 6, 7, 11, 12, 13] _ rfl, hS⟩
    refine id (qX 13 [iv 0, iv 0, .slice none 0 0, iv 0] 103 (ptr · 0) ha hS fun b87 w a hb88 hS ha => ?_);refine ⟨.inr (Sat.rest [_, _] hS), ?_⟩;replace hS := hS.pickN 9 [5, 0, 1, 2, 3, 4, 6, 7, 8];refine jV 11 (qK 88 (vs := [.agg #[.slice s.A s.n s.c], .agg #[.slice sj.A sj.n sj.c, .slice sh.A sh.n sh.c, iv mode], iv v, iv cd2, iv fuel, .agg #[.slice oj.A oj.n oj.c, .slice oh.A oh.n oh.c, .slice os2.A os2.n os2.c, iv cd2, iv sh2]]) ha (one_sat hS hr hask9 (by omega) hok2.sh) fun v89 w a hp90 ha => ?_);obtain ⟨tr8, sp10, rfl, hS⟩ := hp90;refine qY (jZ (k := 2) [(12, 76, .tuple #[.agg #[.slice oj.A oj.n oj.c, .slice oh.A oh.n oh.c, .slice sp10.A sp10.n sp10.c, iv cd2, iv ((sR l fuel mode sh2 v cd2).m.shared)], (oG ((sR l fuel mode sh2 v cd2).k) ((sR l fuel mode sh2 v cd2).v) tr8 ((sR l fuel mode sh2 v cd2).m.made))]), (13, 89, .agg #[.slice oj.A oj.n oj.c, .slice oh.A oh.n oh.c, .slice sp10.A sp10.n sp10.c, iv cd2, iv ((sR l fuel mode sh2 v cd2).m.shared)]), (14, 90, (oG ((sR l fuel mode sh2 v cd2).k) ((sR l fuel mode sh2 v cd2).v) tr8 ((sR l fuel mode sh2 v cd2).m.made)))] ha (.inl (by kernel_rfl)) fun a ha => ?_);refine jV 17 (o_sa 3 ha (xJ (t := 77) (x := 12) (y := 89)) hS fun w a hS ha => ?_);refine qY (jV 18 (o_sa 2 ha (xJ (t := 103) (x := 13) (y := 90)) hS fun w a hS ha => ?_));refine qY (qH ?_);replace ha := ha.as [(2, iv fuel), (3, ptr b1 0), (4, ptr b3 0), (6, ptr b5 0), (7, ptr b13 0), (11, iv kk), (12, ptr b81 0), (13, ptr b87 0)] rfl;replace hS := hS.pickN 10 [2, 3, 0, 1, 4, 5, 6, 7, 8, 9];exact jJ ⟨b81, b87, tr8, sp10, ha.keeps [2, 3, 4, 6, 7, 11, 12, 13] _ rfl, hS⟩
   refine id (qX 13 [iv 0, iv 0, .slice none 0 0, iv 0] 103 (ptr · 0) ha hS fun b91 w a hb92 hS ha => ?_);refine ⟨.inr (Sat.rest [_] hS), ?_⟩;refine d_all (rs := [11, 15]) (by kernel_rfl) (by simp) (forall_mem_2 ?_ ?_)
   ·
    replace hS := hS.pickN 8 [4, 0, 1, 2, 3, 5, 6, 7];refine id (qK 88 (vs := [.agg #[.slice s.A s.n s.c], .agg #[.slice sj.A sj.n sj.c, .slice sh.A sh.n sh.c, iv mode], iv v, iv cd2, iv fuel, .agg #[.slice oj.A oj.n oj.c, .slice oh.A oh.n oh.c, .slice os2.A os2.n os2.c, iv cd2, iv sh2]]) ha (one_sat hS hr hask9 (by omega) hok2.sh) fun v93 w a hp94 ha => ?_);obtain ⟨tr9, sp11, rfl, hS⟩ := hp94;refine qY (jZ (k := 3) [(12, 76, .tuple #[.agg #[.slice oj.A oj.n oj.c, .slice oh.A oh.n oh.c, .slice sp11.A sp11.n sp11.c, iv cd2, iv ((sR l fuel mode sh2 v cd2).m.shared)], (oG ((sR l fuel mode sh2 v cd2).k) ((sR l fuel mode sh2 v cd2).v) tr9 ((sR l fuel mode sh2 v cd2).m.made))]), (13, 89, .agg #[.slice oj.A oj.n oj.c, .slice oh.A oh.n oh.c, .slice sp11.A sp11.n sp11.c, iv cd2, iv ((sR l fuel mode sh2 v cd2).m.shared)]), (14, 90, (oG ((sR l fuel mode sh2 v cd2).k) ((sR l fuel mode sh2 v cd2).v) tr9 ((sR l fuel mode sh2 v cd2).m.made)))] ha (.inl (by kernel_rfl)) fun a ha => ?_);refine jV 15 (qX 12 [.slice none 0 0, .slice none 0 0, .slice none 0 0, iv 0, iv 0] 77 (ptr · 0) ha hS fun b95 w a hb96 hS ha => ?_);refine qY (jV 17 (o_sa 0 ha (xJ (t := 77) (x := 12) (y := 89)) hS fun w a hS ha => ?_));refine qY (jV 18 (o_sa 3 ha (xJ (t := 103) (x := 13) (y := 90)) hS fun w a hS ha => ?_));refine qY (qH ?_);replace ha := ha.as [(2, iv fuel), (3, ptr b1 0), (4, ptr b3 0), (6, ptr b5 0), (7, ptr b13 0), (11, iv kk), (13, ptr b91 0), (12, ptr b95 0)] rfl;replace hS := hS.pickN 10 [3, 0, 1, 2, 4, 5, 6, 7, 8, 9];exact jJ ⟨b95, b91, tr9, sp11, ha.keeps [2, 3, 4, 6, 7, 11, 12, 13] _ rfl, hS⟩
   refine id (qX 12 [.slice none 0 0, .slice none 0 0, .slice none 0 0, iv 0, iv 0] 77 (ptr · 0) ha hS fun b97 w a hb98 hS ha => ?_);refine ⟨.inr (Sat.rest [_, _] hS), ?_⟩;replace hS := hS.pickN 9 [5, 0, 1, 2, 3, 4, 6, 7, 8];refine jV 11 (qK 88 (vs := [.agg #[.slice s.A s.n s.c], .agg #[.slice sj.A sj.n sj.c, .slice sh.A sh.n sh.c, iv mode], iv v, iv cd2, iv fuel, .agg #[.slice oj.A oj.n oj.c, .slice oh.A oh.n oh.c, .slice os2.A os2.n os2.c, iv cd2, iv sh2]]) ha (one_sat hS hr hask9 (by omega) hok2.sh) fun v99 w a hp100 ha => ?_);obtain ⟨tr10, sp12, rfl, hS⟩ := hp100;refine qY (jZ (k := 2) [(12, 76, .tuple #[.agg #[.slice oj.A oj.n oj.c, .slice oh.A oh.n oh.c, .slice sp12.A sp12.n sp12.c, iv cd2, iv ((sR l fuel mode sh2 v cd2).m.shared)], (oG ((sR l fuel mode sh2 v cd2).k) ((sR l fuel mode sh2 v cd2).v) tr10 ((sR l fuel mode sh2 v cd2).m.made))]), (13, 89, .agg #[.slice oj.A oj.n oj.c, .slice oh.A oh.n oh.c, .slice sp12.A sp12.n sp12.c, iv cd2, iv ((sR l fuel mode sh2 v cd2).m.shared)]), (14, 90, (oG ((sR l fuel mode sh2 v cd2).k) ((sR l fuel mode sh2 v cd2).v) tr10 ((sR l fuel mode sh2 v cd2).m.made)))] ha (.inl (by kernel_rfl)) fun a ha => ?_);refine jV 17 (o_sa 2 ha (xJ (t := 77) (x := 12) (y := 89)) hS fun w a hS ha => ?_);refine qY (jV 18 (o_sa 3 ha (xJ (t := 103) (x := 13) (y := 90)) hS fun w a hS ha => ?_));refine qY (qH ?_);replace ha := ha.as [(2, iv fuel), (3, ptr b1 0), (4, ptr b3 0), (6, ptr b5 0), (7, ptr b13 0), (11, iv kk), (13, ptr b91 0), (12, ptr b97 0)] rfl;replace hS := hS.pickN 10 [3, 2, 0, 1, 4, 5, 6, 7, 8, 9];exact jJ ⟨b97, b91, tr10, sp12, ha.keeps [2, 3, 4, 6, 7, 11, 12, 13] _ rfl, hS⟩
  rintro a w ⟨g3_0, g3_1, g3_2, g3_3, ha, hS⟩
  refine wp_seq (jX [0, 1] (yG 91 ha (hS.blk 1 rfl) fun a ha => ?_))
  refine jK (o_sa 4 ha (xJ (t := 77) (x := 7) (y := 91)) hS fun w a hS ha => ?_)
  refine jY (jJ (kV (J := fun a_ w_ => ∃ (g4_0 : Nat) (g4_1 : Sl), Has 110 [(2, iv fuel), (3, ptr b1 0), (4, ptr b3 0), (6, ptr b5 0), (7, ptr b13 0), (11, iv kk), (13, ptr g3_1 0)] a_ ∧ Sat w0 w_ ((SX.blk g4_0 [iv ((sR l fuel mode sh2 v cd2).k)] 3) :: (rI g4_1 (hk ++ [(sR l fuel mode sh2 v cd2).k])) :: (rI oh hk) :: (SX.blk g3_1 [iv ((sR l fuel mode sh2 v cd2).k), iv ((sR l fuel mode sh2 v cd2).v), .slice g3_2.A g3_2.n g3_2.c, iv ((sR l fuel mode sh2 v cd2).m.made)] 103) :: (SX.blk g3_0 [.slice oj.A oj.n oj.c, .slice oh.A oh.n oh.c, .slice g3_3.A g3_3.n g3_3.c, iv cd2, iv ((sR l fuel mode sh2 v cd2).m.shared)] 77) :: (rI g3_3 (sy2 ++ saysL (sR l fuel mode sh2 v cd2).m.trace)) :: (rI os2 sy2) :: (SX.blk b13 [.slice oj.A oj.n oj.c, .slice g4_1.A g4_1.n g4_1.c, .slice g3_3.A g3_3.n g3_3.c, iv cd2, iv ((sR l fuel mode sh2 v cd2).m.shared)] 77) :: (rI oj jb) :: (SX.blk b1 [.slice s.A s.n s.c] 35) :: (SX.blk b3 [.slice sj.A sj.n sj.c, .slice sh.A sh.n sh.c, iv mode] 39) :: (SX.blk b5 [.slice none 0 0, .slice none 0 0, .slice none 0 0, iv 0, iv 0] 77) :: [])) ?_ ?_))
  ·
   refine xX 8 9 (hS.pickN 10 [0, 1, 4, 7, 8, 9]) hS fun w hS => ?_;refine jZ (k := 8) [(0, 92, ptr b13 1)] ha (.inr (hS.pickN 10 [0, 1, 4, 7, 8, 9])) fun a ha => ?_;refine qV 1 (d := 93) (b := b13) (j := 1) ha (hS.pickN 10 [0, 1, 4, 7, 8, 9]) (fun _ hw => hw.blk 2 rfl) rfl fun a ha => ?_;refine jZ (k := 6) [(3, 95, ptr g3_1 0)] ha (.inr (hS.pickN 10 [0, 1, 4, 7, 8, 9])) fun a ha => ?_;refine qV 4 (d := 96) (b := g3_1) (j := 0) ha (hS.pickN 10 [0, 1, 4, 7, 8, 9]) (fun _ hw => hw.blk 0 rfl) rfl fun a ha => ?_;refine d_all (rs := [2, 5]) (by kernel_rfl) (by simp) (forall_mem_2 ?_ ?_)
   ·
    replace hS := hS.pickN 10 [6, 0, 1, 2, 3, 4, 5, 7, 8, 9];refine id (qK 94 (vs := [.slice oh.A oh.n oh.c]) ha (own_sat hS (by omega)) fun v101 w a hp102 ha => ?_);obtain ⟨sp13, rfl, hS⟩ := hp102;refine ⟨.inr (hS.pickN 11 [2, 3, 6, 8, 9, 10]), ?_⟩;refine jV 5 (qX 97 [iv ((sR l fuel mode sh2 v cd2).k)] 3 (fun b => .slice (some ⟨b, 0, none⟩) 1 1) ha hS fun b103 w a hb104 hS ha => ?_);refine ⟨.inr (hS.pickN 12 [3, 4, 7, 9, 10, 11]), ?_⟩;refine jV 6 (o_ap 98 1 0 (encI (hk ++ [(sR l fuel mode sh2 v cd2).k])) ha hS rfl rfl (by rw [encI_length]; simp only [List.length_cons, List.length_nil]; omega) (encI_snoc _ _) fun s108 w a hS hn109 ha => ?_);refine ⟨.inr (hS.pickN 12 [3, 4, 7, 9, 10, 11]), ?_⟩;refine jZ (k := 1) [(7, 99, ptr b13 1)] ha (.inr (hS.pickN 12 [3, 4, 7, 9, 10, 11])) fun a ha => ?_;refine jV 8 (xY b13 1 (.slice s108.A s108.n s108.c) 7 ha hS rfl rfl fun w a hS ha => ?_);refine qY (qH ?_);replace hS : Sat w0 w ((SX.blk b103 [iv ((sR l fuel mode sh2 v cd2).k)] 3) :: (rI s108 (hk ++ [(sR l fuel mode sh2 v cd2).k])) :: (rI oh hk) :: (SX.blk g3_1 [iv ((sR l fuel mode sh2 v cd2).k), iv ((sR l fuel mode sh2 v cd2).v), .slice g3_2.A g3_2.n g3_2.c, iv ((sR l fuel mode sh2 v cd2).m.made)] 103) :: (SX.blk g3_0 [.slice oj.A oj.n oj.c, .slice oh.A oh.n oh.c, .slice g3_3.A g3_3.n g3_3.c, iv cd2, iv ((sR l fuel mode sh2 v cd2).m.shared)] 77) :: (rI g3_3 (sy2 ++ saysL (sR l fuel mode sh2 v cd2).m.trace)) :: (rI os2 sy2) :: (SX.blk b13 [.slice oj.A oj.n oj.c, .slice s108.A s108.n s108.c, .slice g3_3.A g3_3.n g3_3.c, iv cd2, iv ((sR l fuel mode sh2 v cd2).m.shared)] 77) :: (rI oj jb) :: (SX.blk b1 [.slice s.A s.n s.c] 35) :: (SX.blk b3 [.slice sj.A sj.n sj.c, .slice sh.A sh.n sh.c, iv mode] 39) :: (SX.blk b5 [.slice none 0 0, .slice none 0 0, .slice none 0 0, iv 0, iv 0] 77) :: []) := hS;exact jJ ⟨b103, s108, ha.keeps [2, 3, 4, 6, 7, 11, 13] _ rfl, hS⟩
   refine id (qX 97 [iv ((sR l fuel mode sh2 v cd2).k)] 3 (fun b => .slice (some ⟨b, 0, none⟩) 1 1) ha hS fun b110 w a hb111 hS ha => ?_);refine ⟨.inr (hS.pickN 11 [1, 2, 5, 8, 9, 10]), ?_⟩;replace hS := hS.pickN 11 [7, 0, 1, 2, 3, 4, 5, 6, 8, 9, 10];refine jV 2 (qK 94 (vs := [.slice oh.A oh.n oh.c]) ha (own_sat hS (by omega)) fun v112 w a hp113 ha => ?_);obtain ⟨sp14, rfl, hS⟩ := hp113;refine ⟨.inr (hS.pickN 12 [3, 4, 7, 9, 10, 11]), ?_⟩;refine jV 6 (o_ap 98 0 2 (encI (hk ++ [(sR l fuel mode sh2 v cd2).k])) ha hS rfl rfl (by rw [encI_length]; simp only [List.length_cons, List.length_nil]; omega) (encI_snoc _ _) fun s117 w a hS hn118 ha => ?_);refine ⟨.inr (hS.pickN 12 [3, 4, 7, 9, 10, 11]), ?_⟩;refine jZ (k := 1) [(7, 99, ptr b13 1)] ha (.inr (hS.pickN 12 [3, 4, 7, 9, 10, 11])) fun a ha => ?_;refine jV 8 (xY b13 1 (.slice s117.A s117.n s117.c) 7 ha hS rfl rfl fun w a hS ha => ?_);refine qY (qH ?_);replace hS := hS.pickN 12 [2, 0, 1, 3, 4, 5, 6, 7, 8, 9, 10, 11];exact jJ ⟨b110, s117, ha.keeps [2, 3, 4, 6, 7, 11, 13] _ rfl, hS⟩
  rintro a w ⟨g4_0, g4_1, ha, hS⟩
  refine wp_seq (jX [0, 1, 2] (jQ [(0, 100, ptr g3_1 0)] ha fun a ha => ?_))
  refine jG (d := 101) (b := g3_1) (j := 0) ha (hS.blk 3 rfl) rfl fun a ha => ?_
  refine jQ [(2, 102, .bool (!(decide (((sR l fuel mode sh2 v cd2).k) = 1))))] ha fun a ha => ?_
  refine jY (jJ ?_)
  by_cases c119 : ((sR l fuel mode sh2 v cd2).k) = 1
  ·
   refine jW ha rfl (yX (decide_eq_true c119)) ?_;refine wp_skip (in_n (jJ (jX [0, 1, 2] (jQ [(0, 74, iv kk)] ha fun a ha => ?_))));refine zX 75 (kk - 1) ha fun a ha => ?_;refine jQ [(2, 11, iv (kk - 1))] ha fun a ha => ?_;refine jY (jJ ?_);replace hS := hS.pickN 12 [7, 8, 1, 5, 9, 10, 11];have hE9 : (⟨jb, (hk ++ [(sR l fuel mode sh2 v cd2).k]), (sy2 ++ saysL (sR l fuel mode sh2 v cd2).m.trace), cd2, (sR l fuel mode sh2 v cd2).m.shared⟩ : SN) = sHook l fuel mode (⟨jb, hk, sy2, cd2, sh2⟩ : SN) v := by simp only [sHook]; rw [if_pos c119]
   exact ⟨_, by omega, j + 1, kk - 1, (hk ++ [(sR l fuel mode sh2 v cd2).k]), (sy2 ++ saysL (sR l fuel mode sh2 v cd2).m.trace), cd2, ((sR l fuel mode sh2 v cd2).m.shared), g4_1, g3_3, rfl, by omega, by omega, by rw [bwd_at hq9 hjv, sHooks_app, ← hq2]; exact hE9, by rw [hE9]; exact hok2.hook hask9, ha.keeps [2, 3, 4, 6, 7, 11] _ rfl, hS⟩
  refine jU ha rfl (zY (decide_eq_false c119)) ?_
  refine xX 6 7 (hS.pickN 12 [0, 3, 4, 7, 9, 10, 11]) hS fun w hS => ?_
  refine jZ (k := 6) [(0, 103, ptr b13 3)] ha (.inr (hS.pickN 12 [0, 3, 4, 7, 9, 10, 11])) fun a ha => ?_
  refine qV 1 (d := 104) (b := b13) (j := 3) ha (hS.pickN 12 [0, 3, 4, 7, 9, 10, 11]) (fun _ hw => hw.blk 3 rfl) rfl fun a ha => ?_
  refine xK 2 105 ha (hS.pickN 12 [0, 3, 4, 7, 9, 10, 11]) (fun _ hw => hw.blk 1 rfl) fun a ha => ?_
  have hcl := codeOf_le ((sR l fuel mode sh2 v cd2).k) ((sR l fuel mode sh2 v cd2).v)
  refine jV 3 (qK 106 (vs := [(oG ((sR l fuel mode sh2 v cd2).k) ((sR l fuel mode sh2 v cd2).v) g3_2 ((sR l fuel mode sh2 v cd2).m.made))]) ha (l10Code_sat hS (sR_k hask9)) fun v120 w a hp121 ha => ?_)
  obtain ⟨rfl, hS⟩ := hp121
  refine ⟨.inr (hS.pickN 12 [0, 3, 4, 7, 9, 10, 11]), ?_⟩
  refine jV 4 (qK 107 (vs := [iv cd2, iv (codeOf ((sR l fuel mode sh2 v cd2).k) ((sR l fuel mode sh2 v cd2).v))]) ha (most_sat hS _ _) fun v122 w a hp123 ha => ?_)
  obtain ⟨rfl, hS⟩ := hp123
  refine ⟨.inr (hS.pickN 12 [0, 3, 4, 7, 9, 10, 11]), ?_⟩
  refine jZ (k := 1) [(5, 108, ptr b13 3)] ha (.inr (hS.pickN 12 [0, 3, 4, 7, 9, 10, 11])) fun a ha => ?_
  refine jV 6 (xY b13 3 (iv (max cd2 (codeOf ((sR l fuel mode sh2 v cd2).k) ((sR l fuel mode sh2 v cd2).v)))) 7 ha hS rfl rfl fun w a hS ha => ?_)
  refine qY (qH (in_n (jJ (jX [0, 1, 2] (jQ [(0, 74, iv kk)] ha fun a ha => ?_)))))
  refine zX 75 (kk - 1) ha fun a ha => ?_
  refine jQ [(2, 11, iv (kk - 1))] ha fun a ha => ?_
  refine jY (jJ ?_)
  replace hS := hS.pickN 12 [7, 8, 1, 5, 9, 10, 11]
  have hE9 : (⟨jb, (hk ++ [(sR l fuel mode sh2 v cd2).k]), (sy2 ++ saysL (sR l fuel mode sh2 v cd2).m.trace), max cd2 (codeOf ((sR l fuel mode sh2 v cd2).k) ((sR l fuel mode sh2 v cd2).v)), (sR l fuel mode sh2 v cd2).m.shared⟩ : SN) = sHook l fuel mode (⟨jb, hk, sy2, cd2, sh2⟩ : SN) v := by simp only [sHook]; rw [if_neg c119]
  exact ⟨_, by omega, j + 1, kk - 1, (hk ++ [(sR l fuel mode sh2 v cd2).k]), (sy2 ++ saysL (sR l fuel mode sh2 v cd2).m.trace), (max cd2 (codeOf ((sR l fuel mode sh2 v cd2).k) ((sR l fuel mode sh2 v cd2).v))), ((sR l fuel mode sh2 v cd2).m.shared), g4_1, g3_3, rfl, by omega, by omega, by rw [bwd_at hq9 hjv, sHooks_app, ← hq2]; exact hE9, by rw [hE9]; exact hok2.hook hask9, ha.keeps [2, 3, 4, 6, 7, 11] _ rfl, hS⟩
 refine jW ha rfl (decide_eq_false c70) ?_
 refine wp_exit (xV (xV (in_x (jJ (wp_seq (jX [0, 1] (yG 109 ha (hS.blk 0 rfl) fun a ha => ?_)))))))
 refine jK (o_sa 6 ha (xJ (t := 77) (x := 6) (y := 109)) hS fun w a hS ha => ?_)
 refine jY (jJ (wp_ret (jH ha (by kernel_rfl) (xU (t := 6) (ty := 77) (i := 6) ha rfl hS rfl (by kernel_rfl)) ?_)))
 obtain rfl : j = hs.length := by omega
 have hA : playS l js hs mode fuel = (⟨jb, hk, sy2, cd2, sh2⟩ : SN) := by rw [playS_yes hP]; unfold sAll; rw [← hJ]; exact hq2.symm
 replace hS := hS.pickN 7 [1, 2, 3]
 rw [hA]
 exact ⟨oj, oh, os2, rfl, hS⟩
theorem qrun_sat {w0 w : World} {Rs : List Asn} {s sj sh : Sl} {l : List (List ST)} {js : List (Int × Int)} {hs : List Int} {mode fuel : Int} (hS : Sat w0 w Rs) (hr : RdP w s l) (hrj : RdE cellsR 2 w sj js) (hrh : RdI w sh hs) (hP : playB l js hs mode fuel = true) :
  Calls Try.prog 54 #[.agg #[.slice s.A s.n s.c], .agg #[.slice sj.A sj.n sj.c, .slice sh.A sh.n sh.c, iv mode], iv fuel] w (Ret fun r w' => ∃ o1 o2 o3 : Sl, r = .agg #[.slice o1.A o1.n o1.c, .slice o2.A o2.n o2.c, .slice o3.A o3.n o3.c, .int .i64 (playS l js hs mode fuel).code, .int .i64 (playS l js hs mode fuel).shared] ∧ Sat w0 w' (rI o1 (playS l js hs mode fuel).jobs :: rI o2 (playS l js hs mode fuel).hooks :: rI o3 (playS l js hs mode fuel).says :: Rs)) :=
 (qrun_sat0 hr hrj hrh hP).mono fun e w' h => by
  cases e with
  | returned r => obtain ⟨o1, o2, o3, h1, h2⟩ := h; exact ⟨o1, o2, o3, h1, hS.comp h2⟩
  | _ => exact h.elim
theorem code27 : Try.f27.body = some (Code.seq (cr Try.f27 0 false) (Code.seq (cr Try.f27 1 false) (Code.seq (cr Try.f27 2 true) Code.ret))) := by kernel_rfl
theorem impl_SessionKinds_sat0 {w0 : World} {s sj sh : Sl} {l : List (List ST)} {js : List (Int × Int)} {hs : List Int} {mode fuel : Int} (hr : RdP w0 s l) (hf : Fits l) (hrj : RdE cellsR 2 w0 sj js) (hrh : RdI w0 sh hs) :
  Calls Try.prog 27 #[.agg #[.slice s.A s.n s.c], .agg #[.slice sj.A sj.n sj.c, .slice sh.A sh.n sh.c, iv mode], iv fuel] w0 (Ret fun r w' => ∃ o0 o1 : Sl, r = .tuple #[.slice o0.A o0.n o0.c, .slice o1.A o1.n o1.c, .bool ((kindsP l js hs mode fuel).2.2)] ∧ Sat w0 w' (SX.row (.slice o0.A o0.n o0.c) 3 1 (encI ((kindsP l js hs mode fuel).1)) :: SX.row (.slice o1.A o1.n o1.c) 3 1 (encI ((kindsP l js hs mode fuel).2.1)) :: [])) := by
 have hS : Sat w0 w0 [] := Sat.start w0
 have hjn := hrj.len
 refine enter (n := 23) Try.func27 code27 (by kernel_rfl) (Nat.le_of_ble_eq_true rfl) (fun a ha => ?_)
 replace ha : Has 23 [(0, .agg #[.slice s.A s.n s.c]), (1, .agg #[.slice sj.A sj.n sj.c, .slice sh.A sh.n sh.c, iv mode]), (2, iv fuel)] a := ha
 refine wp_seq (jX [0, 1, 2, 3, 4] (jK (qX 3 [.slice s.A s.n s.c] 35 (ptr · 0) ha hS fun b1 w a hb2 hS ha => ?_)))
 refine jK (qX 4 [.slice sj.A sj.n sj.c, .slice sh.A sh.n sh.c, iv mode] 39 (ptr · 0) ha hS fun b3 w a hb4 hS ha => ?_)
 refine jQ [(2, 6, .slice none 0 0), (3, 7, .slice none 0 0), (4, 8, .bool false)] ha fun a ha => ?_
 refine jY (jJ (wp_seq (jX [0, 1, 2, 3, 4, 5, 6, 7, 8, 9] (yG 12 ha (hS.blk 1 rfl) fun a ha => ?_))))
 refine yG 13 ha (hS.blk 0 rfl) fun a ha => ?_
 refine jQ [(2, 14, iv fuel)] ha fun a ha => ?_
 refine jK (qK 15 (vs := [.agg #[.slice s.A s.n s.c], .agg #[.slice sj.A sj.n sj.c, .slice sh.A sh.n sh.c, iv mode], iv fuel]) ha (play_sat hS (hr.sat hS) hf (hrj.sat hS) (hrh.sat hS)) fun v5 w a hp6 ha => ?_)
 obtain ⟨oj, oh, os, rfl, hS⟩ := hp6
 refine jQ [(4, 11, .tuple #[.agg #[.slice oj.A oj.n oj.c, .slice oh.A oh.n oh.c, .slice os.A os.n os.c, iv ((playS l js hs mode fuel).shared), iv ((playS l js hs mode fuel).code)], .bool (playB l js hs mode fuel)]), (5, 16, .agg #[.slice oj.A oj.n oj.c, .slice oh.A oh.n oh.c, .slice os.A os.n os.c, iv ((playS l js hs mode fuel).shared), iv ((playS l js hs mode fuel).code)]), (6, 17, .bool (playB l js hs mode fuel))] ha fun a ha => ?_
 refine jK (qX 9 [.slice none 0 0, .slice none 0 0, .slice none 0 0, iv 0, iv 0] 83 (ptr · 0) ha hS fun b7 w a hb8 hS ha => ?_)
 refine jK (o_sa 0 ha (xJ (t := 83) (x := 9) (y := 16)) hS fun w a hS ha => ?_)
 refine jQ [(9, 10, .bool (playB l js hs mode fuel))] ha fun a ha => ?_
 refine jY (jJ (wp_seq (xW 8 8 hS fun w hS => ?_)))
 refine jZ (k := 7) [(0, 18, ptr b7 0)] ha (.inr hS) fun a ha => ?_
 refine qV 1 (d := 19) (b := b7) (j := 0) ha hS (fun _ hw => hw.blk 0 rfl) rfl fun a ha => ?_
 refine jZ (k := 5) [(2, 20, ptr b7 1)] ha (.inr hS) fun a ha => ?_
 refine qV 3 (d := 21) (b := b7) (j := 1) ha hS (fun _ hw => hw.blk 0 rfl) rfl fun a ha => ?_
 refine jZ (k := 0) [(4, 22, .bool (playB l js hs mode fuel)), (5, 6, .slice oj.A oj.n oj.c), (6, 7, .slice oh.A oh.n oh.c), (7, 8, .bool (playB l js hs mode fuel))] ha (.inr hS) fun a ha => ?_
 refine qH ?_
 replace ha := ha.as [(6, .slice oj.A oj.n oj.c), (7, .slice oh.A oh.n oh.c), (8, .bool (playB l js hs mode fuel))] rfl
 refine jJ (wp_ret (kJ ha (by kernel_rfl) (xZ (t := 6) ha rfl) (xZ (t := 7) ha rfl) (xZ (t := 8) ha rfl) ?_))
 have hE : (kindsP l js hs mode fuel) = (((playS l js hs mode fuel).jobs), ((playS l js hs mode fuel).hooks), (playB l js hs mode fuel)) := by rfl
 rw [hE]
 exact ⟨oj, oh, rfl, hS.pickN 6 [1, 2]⟩
theorem impl_SessionKinds_sat {w0 w : World} {Rs : List Asn} {s sj sh : Sl} {l : List (List ST)} {js : List (Int × Int)} {hs : List Int} {mode fuel : Int} (hS : Sat w0 w Rs) (hr : RdP w s l) (hf : Fits l) (hrj : RdE cellsR 2 w sj js) (hrh : RdI w sh hs) :
  Calls Try.prog 27 #[.agg #[.slice s.A s.n s.c], .agg #[.slice sj.A sj.n sj.c, .slice sh.A sh.n sh.c, iv mode], iv fuel] w (Ret fun r w' => ∃ o0 o1 : Sl, r = .tuple #[.slice o0.A o0.n o0.c, .slice o1.A o1.n o1.c, .bool ((kindsP l js hs mode fuel).2.2)] ∧ Sat w0 w' (SX.row (.slice o0.A o0.n o0.c) 3 1 (encI ((kindsP l js hs mode fuel).1)) :: SX.row (.slice o1.A o1.n o1.c) 3 1 (encI ((kindsP l js hs mode fuel).2.1)) :: Rs)) :=
 (impl_SessionKinds_sat0 hr hf hrj hrh).mono fun e w' h => by
  cases e with
  | returned r => obtain ⟨o0, o1, h1, h2⟩ := h; exact ⟨o0, o1, h1, hS.comp h2⟩
  | _ => exact h.elim
theorem code26 : Try.f26.body = some (Code.seq (cr Try.f26 0 false) (Code.seq (Code.seq (cr Try.f26 1 false) (Code.cond (Operand.tmp 14) (Code.seq (cr Try.f26 2 false) Code.ret) Code.skip)) (Code.seq (cr Try.f26 3 false) (Code.seq (cr Try.f26 4 true) Code.ret)))) := by kernel_rfl
theorem spec_SessionKinds_sat0 {w0 : World} {s sj sh : Sl} {l : List (List ST)} {js : List (Int × Int)} {hs : List Int} {mode fuel : Int} (hr : RdP w0 s l) (hf : Fits l) (hrj : RdE cellsR 2 w0 sj js) (hrh : RdI w0 sh hs) :
  Calls Try.prog 26 #[.agg #[.slice s.A s.n s.c], .agg #[.slice sj.A sj.n sj.c, .slice sh.A sh.n sh.c, iv mode], iv fuel] w0 (Ret fun r w' => ∃ o0 o1 : Sl, r = .tuple #[.slice o0.A o0.n o0.c, .slice o1.A o1.n o1.c, .bool ((kindsP l js hs mode fuel).2.2)] ∧ Sat w0 w' (SX.row (.slice o0.A o0.n o0.c) 3 1 (encI ((kindsP l js hs mode fuel).1)) :: SX.row (.slice o1.A o1.n o1.c) 3 1 (encI ((kindsP l js hs mode fuel).2.1)) :: [])) := by
 have hS : Sat w0 w0 [] := Sat.start w0
 have hjn := hrj.len
 refine enter (n := 25) Try.func26 code26 (by kernel_rfl) (Nat.le_of_ble_eq_true rfl) (fun a ha => ?_)
 replace ha : Has 25 [(0, .agg #[.slice s.A s.n s.c]), (1, .agg #[.slice sj.A sj.n sj.c, .slice sh.A sh.n sh.c, iv mode]), (2, iv fuel)] a := ha
 refine wp_seq (jX [0, 1, 2, 3, 4] (jK (qX 3 [.slice s.A s.n s.c] 35 (ptr · 0) ha hS fun b1 w a hb2 hS ha => ?_)))
 refine jK (qX 4 [.slice sj.A sj.n sj.c, .slice sh.A sh.n sh.c, iv mode] 39 (ptr · 0) ha hS fun b3 w a hb4 hS ha => ?_)
 refine jQ [(2, 6, .slice none 0 0), (3, 7, .slice none 0 0), (4, 8, .bool false)] ha fun a ha => ?_
 refine jY (jJ (wp_seq (wp_seq (jX [0, 1, 2, 3, 4] (yG 10 ha (hS.blk 1 rfl) fun a ha => ?_)))))
 refine yG 11 ha (hS.blk 0 rfl) fun a ha => ?_
 refine jQ [(2, 12, iv fuel)] ha fun a ha => ?_
 refine jK (qK 13 (vs := [.agg #[.slice s.A s.n s.c], .agg #[.slice sj.A sj.n sj.c, .slice sh.A sh.n sh.c, iv mode], iv fuel]) ha (qask_sat hS (hr.sat hS) hf (hrj.sat hS) (hrh.sat hS)) fun v5 w a hp6 ha => ?_)
 obtain ⟨rfl, hS⟩ := hp6
 refine jQ [(4, 14, .bool (!((playB l js hs mode fuel))))] ha fun a ha => ?_
 refine jY (jJ ?_)
 rcases Bool.eq_false_or_eq_true (playB l js hs mode fuel) with c7 | c7
 ·
  refine jW ha rfl (yX c7) ?_
  refine wp_skip (jJ (wp_seq (jX [0, 1, 2, 3, 4, 5] (yG 17 ha (hS.blk 1 rfl) fun a ha => ?_))))
  refine yG 18 ha (hS.blk 0 rfl) fun a ha => ?_
  refine jQ [(2, 19, iv fuel)] ha fun a ha => ?_
  refine jK (qK 20 (vs := [.agg #[.slice s.A s.n s.c], .agg #[.slice sj.A sj.n sj.c, .slice sh.A sh.n sh.c, iv mode], iv fuel]) ha (qrun_sat hS (hr.sat hS) (hrj.sat hS) (hrh.sat hS) c7) fun v8 w a hp9 ha => ?_)
  obtain ⟨oj, oh, os, rfl, hS⟩ := hp9
  refine jK (qX 9 [.slice none 0 0, .slice none 0 0, .slice none 0 0, iv 0, iv 0] 77 (ptr · 0) ha hS fun b10 w a hb11 hS ha => ?_)
  refine jK (o_sa 0 ha (xJ (t := 77) (x := 9) (y := 20)) hS fun w a hS ha => ?_)
  refine jY (jJ (wp_seq (xW 7 7 hS fun w hS => ?_)))
  refine jZ (k := 6) [(0, 21, ptr b10 0)] ha (.inr hS) fun a ha => ?_
  refine qV 1 (d := 22) (b := b10) (j := 0) ha hS (fun _ hw => hw.blk 0 rfl) rfl fun a ha => ?_
  refine jZ (k := 4) [(2, 23, ptr b10 1)] ha (.inr hS) fun a ha => ?_
  refine qV 3 (d := 24) (b := b10) (j := 1) ha hS (fun _ hw => hw.blk 0 rfl) rfl fun a ha => ?_
  refine jZ (k := 0) [(4, 6, .slice oj.A oj.n oj.c), (5, 7, .slice oh.A oh.n oh.c), (6, 8, .bool true)] ha (.inr hS) fun a ha => ?_
  refine qH ?_
  replace ha := ha.as [(6, .slice oj.A oj.n oj.c), (7, .slice oh.A oh.n oh.c), (8, .bool true)] rfl
  refine jJ (wp_ret (kJ ha (by kernel_rfl) (xZ (t := 6) ha rfl) (xZ (t := 7) ha rfl) (xZ (t := 8) ha rfl) ?_))
  have hE : (kindsP l js hs mode fuel) = (((playS l js hs mode fuel).jobs), ((playS l js hs mode fuel).hooks), true) := by unfold kindsP; rw [c7]
  rw [hE]
  exact ⟨oj, oh, rfl, hS.pickN 6 [1, 2]⟩
 refine jU ha rfl (zY c7) ?_
 refine wp_seq (jX [0, 1, 2, 3, 4] (jK (qX 15 [] 3 (fun b => .slice (some ⟨b, 0, none⟩) 0 0) ha hS fun b12 w a hb13 hS ha => ?_)))
 refine jK (qX 16 [] 3 (fun b => .slice (some ⟨b, 0, none⟩) 0 0) ha hS fun b14 w a hb15 hS ha => ?_)
 refine jQ [(2, 6, .slice (some ⟨b12, 0, none⟩) 0 0), (3, 7, .slice (some ⟨b14, 0, none⟩) 0 0), (4, 8, .bool false)] ha fun a ha => ?_
 refine jY (jJ (wp_ret (qU (kJ ha (by kernel_rfl) (xZ (t := 6) ha rfl) (xZ (t := 7) ha rfl) (xZ (t := 8) ha rfl) ?_))))
 replace hS := hS.blk0 1 1 rfl
 replace hS := hS.blk0 1 0 rfl
 have hE : (kindsP l js hs mode fuel) = ([], [], false) := by unfold kindsP; rw [playS_no c7, c7]; rfl
 rw [hE]
 exact ⟨⟨some ⟨b12, 0, none⟩, 0, 0⟩, ⟨some ⟨b14, 0, none⟩, 0, 0⟩, rfl, hS.pickN 4 [1, 0]⟩
theorem spec_SessionKinds_sat {w0 w : World} {Rs : List Asn} {s sj sh : Sl} {l : List (List ST)} {js : List (Int × Int)} {hs : List Int} {mode fuel : Int} (hS : Sat w0 w Rs) (hr : RdP w s l) (hf : Fits l) (hrj : RdE cellsR 2 w sj js) (hrh : RdI w sh hs) :
  Calls Try.prog 26 #[.agg #[.slice s.A s.n s.c], .agg #[.slice sj.A sj.n sj.c, .slice sh.A sh.n sh.c, iv mode], iv fuel] w (Ret fun r w' => ∃ o0 o1 : Sl, r = .tuple #[.slice o0.A o0.n o0.c, .slice o1.A o1.n o1.c, .bool ((kindsP l js hs mode fuel).2.2)] ∧ Sat w0 w' (SX.row (.slice o0.A o0.n o0.c) 3 1 (encI ((kindsP l js hs mode fuel).1)) :: SX.row (.slice o1.A o1.n o1.c) 3 1 (encI ((kindsP l js hs mode fuel).2.1)) :: Rs)) :=
 (spec_SessionKinds_sat0 hr hf hrj hrh).mono fun e w' h => by
  cases e with
  | returned r => obtain ⟨o0, o1, h1, h2⟩ := h; exact ⟨o0, o1, h1, hS.comp h2⟩
  | _ => exact h.elim
theorem code4 : Try.f4.body = some (Code.seq (cr Try.f4 0 false) (Code.seq (cr Try.f4 1 false) (Code.seq (cr Try.f4 2 false) (Code.seq (Code.seq (cr Try.f4 3 false) (Code.cond (Operand.tmp 26) (Code.seq (cr Try.f4 4 false) Code.ret) Code.skip)) (Code.seq (cr Try.f4 5 false) (Code.seq (Code.seq (cr Try.f4 6 false) (Code.cond (Operand.tmp 31) (Code.seq (cr Try.f4 7 false) Code.ret) Code.skip)) (Code.seq (cr Try.f4 8 true) (Code.seq (cr Try.f4 9 false) (Code.seq (cr Try.f4 10 false) (Code.seq (cr Try.f4 11 false) (Code.seq (Code.seq (cr Try.f4 12 false) (Code.cond (Operand.tmp 68) (Code.seq (cr Try.f4 13 false) Code.ret) Code.skip)) (Code.seq (Code.seq (cr Try.f4 14 true) (Code.cond (Operand.tmp 73) (Code.seq (cr Try.f4 15 false) Code.ret) Code.skip)) (Code.seq (Code.seq (cr Try.f4 16 true) (Code.cond (Operand.tmp 78) (Code.seq (cr Try.f4 17 false) Code.ret) Code.skip)) (Code.seq (cr Try.f4 18 false) (Code.seq (cr Try.f4 19 false) (Code.seq (cr Try.f4 20 false) (Code.seq (Code.seq (cr Try.f4 21 false) (Code.cond (Operand.tmp 103) (Code.seq (cr Try.f4 22 false) Code.ret) Code.skip)) (Code.seq (cr Try.f4 23 false) (Code.seq (cr Try.f4 24 false) (Code.seq (cr Try.f4 25 false) (Code.seq (cr Try.f4 26 false) (Code.seq (cr Try.f4 27 false) (Code.seq (Code.seq (cr Try.f4 28 false) (Code.cond (Operand.tmp 114) (Code.seq (cr Try.f4 29 false) Code.ret) Code.skip)) (Code.seq (cr Try.f4 30 false) (Code.seq (Code.seq (cr Try.f4 31 false) (Code.cond (Operand.tmp 119) (Code.seq (cr Try.f4 32 false) Code.ret) Code.skip)) (Code.seq (Code.seq (cr Try.f4 33 false) (Code.cond (Operand.tmp 122) (Code.seq (cr Try.f4 34 false) Code.ret) Code.skip)) (Code.seq (cr Try.f4 35 true) (Code.seq (Code.seq (cr Try.f4 36 false) (Code.cond (Operand.tmp 147) (Code.seq (cr Try.f4 37 false) Code.ret) Code.skip)) (Code.seq (cr Try.f4 38 false) (Code.seq (cr Try.f4 39 false) (Code.seq (Code.seq (cr Try.f4 40 false) (Code.cond (Operand.tmp 152) (Code.seq (cr Try.f4 41 false) Code.ret) Code.skip)) (Code.seq (cr Try.f4 42 false) (Code.seq (Code.seq (cr Try.f4 43 false) (Code.cond (Operand.tmp 157) (Code.seq (cr Try.f4 44 false) Code.ret) Code.skip)) (Code.seq (Code.seq (cr Try.f4 45 false) (Code.cond (Operand.tmp 160) (Code.seq (cr Try.f4 46 false) Code.ret) Code.skip)) (Code.seq (cr Try.f4 47 false) Code.ret))))))))))))))))))))))))))))))))))) := by kernel_rfl
theorem law4_walk (w0 : World) (s0 : Sl) (l0 : List (List LT)) (rjs rhs : Sl) (js : List (Int × Int)) (hs : List Int) (mode : Int) (fuel : Int) (hr0 : RdA w0 s0 l0) (hrjs : RdE cellsR 2 w0 rjs js) (hrhs : RdI w0 rhs hs) :
  Calls Try.prog 4 #[.agg #[.slice s0.A s0.n s0.c], .agg #[.slice rjs.A rjs.n rjs.c, .slice rhs.A rhs.n rhs.c, iv mode], iv fuel] w0 (Ret fun r w' => r = .bool true ∧ Below w0.heap.size w0 w') := by
 have hS : Sat w0 w0 [] := Sat.start w0
 have hnjs := hrjs.len
 have hgjs := hrjs.big
 have hnhs := hrhs.len
 have hghs := hrhs.big
 refine enter (n := 161) Try.func4 code4 (by kernel_rfl) (Nat.le_of_ble_eq_true rfl) (fun a ha => ?_)
 replace ha : Has 161 [(0, .agg #[.slice s0.A s0.n s0.c]), (1, .agg #[.slice rjs.A rjs.n rjs.c, .slice rhs.A rhs.n rhs.c, iv mode]), (2, iv fuel)] a := ha
 refine wp_seq (jX [0, 1, 2] (jK (qX 3 [.slice s0.A s0.n s0.c] 24 (ptr · 0) ha hS fun b1 w a hb2 hS ha => ?_)))
 refine jK (qX 4 [.slice rjs.A rjs.n rjs.c, .slice rhs.A rhs.n rhs.c, iv mode] 28 (ptr · 0) ha hS fun b3 w a hb4 hS ha => ?_)
 refine jQ [(2, 6, .bool false)] ha fun a ha => ?_
 refine jY (jJ (wp_seq (jX [0] (jQ [(0, 7, iv 1048576)] ha fun a ha => ?_))))
 refine jY (jJ (wp_seq (jX [0, 1, 2, 3] (yG 22 ha (hS.blk 1 rfl) fun a ha => ?_))))
 refine jQ [(1, 23, iv 1048576)] ha fun a ha => ?_
 refine jK (qK 24 (vs := [.agg #[.slice s0.A s0.n s0.c], iv 1048576]) ha (szProgram_sat hS (hr0.sat hS) (by omega) (by omega)) fun v5 w a hp6 ha => ?_)
 obtain ⟨rfl, hS⟩ := hp6
 refine jQ [(3, 7, iv (szP l0 1048576))] ha fun a ha => ?_
 refine jY (jJ (wp_seq (wp_seq (jX [0, 1] (jQ [(0, 25, iv (szP l0 1048576)), (1, 26, .bool (decide ((szP l0 1048576) < 0)))] ha fun a ha => ?_)))))
 refine jY (jJ ?_)
 by_cases c7 : (szP l0 1048576) < 0
 ·
  refine jU ha rfl (decide_eq_true c7) ?_
  refine wp_seq (jX [0] (jQ [(0, 6, .bool true)] ha fun a ha => ?_))
  refine jY (jJ (wp_ret (qU (jH ha (by kernel_rfl) (xZ (t := 6) ha rfl) ?_))))
  exact ⟨rfl, hS.below⟩
 have hf0 : Fits l0 := by have h8 : 0 ≤ szP l0 1048576 := (by omega); have h9 := szP_ok l0 1048576 h8; exact ⟨by omega, by omega⟩
 have htp0 := (toP_fits hf0).tot
 have hz0 := szP_ok l0 1048576 (by omega)
 refine jW ha rfl (decide_eq_false c7) ?_
 refine wp_skip (jJ (wp_seq (jX [0, 1, 2, 3] (yG 27 ha (hS.blk 0 rfl) fun a ha => ?_))))
 refine jQ [(1, 28, iv (szP l0 1048576))] ha fun a ha => ?_
 refine jK (qK 29 (vs := [.agg #[.slice rjs.A rjs.n rjs.c, .slice rhs.A rhs.n rhs.c, iv mode], iv (szP l0 1048576)]) ha (szSession_sat hS (hrjs.sat hS).len (hrhs.sat hS).len (by omega) (by omega) (by omega) (by omega)) fun v8 w a hp9 ha => ?_)
 obtain ⟨rfl, hS⟩ := hp9
 refine jQ [(3, 7, iv (szN2 js.length hs.length (szP l0 1048576)))] ha fun a ha => ?_
 refine jY (jJ (wp_seq (wp_seq (jX [0, 1] (jQ [(0, 30, iv (szN2 js.length hs.length (szP l0 1048576))), (1, 31, .bool (decide ((szN2 js.length hs.length (szP l0 1048576)) < 0)))] ha fun a ha => ?_)))))
 refine jY (jJ ?_)
 by_cases c10 : (szN2 js.length hs.length (szP l0 1048576)) < 0
 ·
  refine jU ha rfl (decide_eq_true c10) ?_
  refine wp_seq (jX [0] (jQ [(0, 6, .bool true)] ha fun a ha => ?_))
  refine jY (jJ (wp_ret (qU (jH ha (by kernel_rfl) (xZ (t := 6) ha rfl) ?_))))
  exact ⟨rfl, hS.below⟩
 have hz9 := szN2_ok (n := js.length) (m := hs.length) (left := (szP l0 1048576)) (by omega)
 refine jW ha rfl (decide_eq_false c10) ?_
 refine wp_skip (jJ (wp_seq (xX 13 13 (hS.pickN 2 [0, 1]) hS fun w hS => ?_)))
 refine xK 0 33 ha (hS.pickN 2 [0, 1]) (fun _ hw => hw.blk 1 rfl) fun a ha => ?_
 refine xK 2 35 ha (hS.pickN 2 [0, 1]) (fun _ hw => hw.blk 0 rfl) fun a ha => ?_
 refine jZ (k := 10) [(4, 37, iv fuel)] ha (.inr (hS.pickN 2 [0, 1])) fun a ha => ?_
 refine jV 1 (qK 34 (vs := [.agg #[.slice s0.A s0.n s0.c]]) ha (toProgram_sat hS (hr0.sat hS) hf0) fun v11 w a hp12 ha => ?_)
 obtain ⟨sp1, rfl, hS⟩ := hp12
 refine ⟨.inr (hS.pickN 3 [1, 2]), ?_⟩
 refine jV 3 (qK 36 (vs := [.agg #[.slice rjs.A rjs.n rjs.c, .slice rhs.A rhs.n rhs.c, iv mode]]) ha (toSession_sat hS (hrjs.sat hS) (hrhs.sat hS) (by omega) (by omega)) fun v13 w a hp14 ha => ?_)
 obtain ⟨o1, o2, rfl, hS⟩ := hp14
 refine ⟨.inr (hS.pickN 5 [3, 4]), ?_⟩
 refine jV 5 (qK 38 (vs := [.agg #[.slice sp1.A sp1.n sp1.c], .agg #[.slice o1.A o1.n o1.c, .slice o2.A o2.n o2.c, iv mode], iv fuel]) ha (spec_SessionKinds_sat hS (hS.rdS 2 rfl) (toP_fits hf0) (hS.rdE (s := o1) 0 yQ (by decide) rfl) (hS.rdRow (s := o2) 1 rfl)) fun v15 w a hp16 ha => ?_)
 obtain ⟨o3, o4, rfl, hS⟩ := hp16
 refine ⟨.inr (hS.pickN 7 [5, 6]), ?_⟩
 refine jZ (k := 0) [(6, 32, .tuple #[.slice o3.A o3.n o3.c, .slice o4.A o4.n o4.c, .bool ((kindsP (toP l0) js hs mode fuel).2.2)]), (7, 39, .slice o3.A o3.n o3.c), (8, 40, .slice o4.A o4.n o4.c), (9, 41, .bool ((kindsP (toP l0) js hs mode fuel).2.2)), (10, 8, .slice o3.A o3.n o3.c), (11, 9, .slice o4.A o4.n o4.c), (12, 10, .bool ((kindsP (toP l0) js hs mode fuel).2.2))] ha (.inr (hS.pickN 7 [5, 6])) fun a ha => ?_
 refine qH ?_
 replace ha := ha.as [(2, iv fuel), (3, ptr b1 0), (4, ptr b3 0), (6, .bool false), (8, .slice o3.A o3.n o3.c), (9, .slice o4.A o4.n o4.c), (10, .bool ((kindsP (toP l0) js hs mode fuel).2.2))] rfl
 refine jJ (wp_seq (jX [0, 1, 2, 3] (yG 42 ha (hS.blk 6 rfl) fun a ha => ?_)))
 refine jK (qK 43 (vs := [.agg #[.slice s0.A s0.n s0.c]]) ha (toProgram_sat hS (hr0.sat hS) hf0) fun v17 w a hp18 ha => ?_)
 obtain ⟨sp2, rfl, hS⟩ := hp18
 refine jK (qX 11 [.slice none 0 0] 35 (ptr · 0) ha hS fun b19 w a hb20 hS ha => ?_)
 refine jK (o_sa 0 ha (xJ (t := 35) (x := 11) (y := 43)) hS fun w a hS ha => ?_)
 refine jY (jJ (wp_seq (jX [0, 1, 2, 3] (yG 44 ha (hS.blk 7 rfl) fun a ha => ?_))))
 refine jK (qK 45 (vs := [.agg #[.slice rjs.A rjs.n rjs.c, .slice rhs.A rhs.n rhs.c, iv mode]]) ha (toSession_sat hS (hrjs.sat hS) (hrhs.sat hS) (by omega) (by omega)) fun v21 w a hp22 ha => ?_)
 obtain ⟨o5, o6, rfl, hS⟩ := hp22
 refine jK (qX 12 [.slice none 0 0, .slice none 0 0, iv 0] 39 (ptr · 0) ha hS fun b23 w a hb24 hS ha => ?_)
 refine jK (o_sa 0 ha (xJ (t := 39) (x := 12) (y := 45)) hS fun w a hS ha => ?_)
 refine jY (jJ (wp_seq (jX [0, 1, 2, 3, 4, 5, 6, 7, 8, 9, 10] (yG 47 ha (hS.blk 3 rfl) fun a ha => ?_))))
 refine yG 48 ha (hS.blk 0 rfl) fun a ha => ?_
 refine jQ [(2, 49, iv fuel)] ha fun a ha => ?_
 refine jK (qK 50 (vs := [.agg #[.slice sp2.A sp2.n sp2.c], .agg #[.slice o5.A o5.n o5.c, .slice o6.A o6.n o6.c, iv mode], iv fuel]) ha (impl_SessionKinds_sat hS (hS.rdS 4 rfl) (toP_fits hf0) (hS.rdE (s := o5) 1 yQ (by decide) rfl) (hS.rdRow (s := o6) 2 rfl)) fun v25 w a hp26 ha => ?_)
 obtain ⟨o7, o8, rfl, hS⟩ := hp26
 refine jQ [(4, 46, .tuple #[.slice o7.A o7.n o7.c, .slice o8.A o8.n o8.c, .bool ((kindsP (toP l0) js hs mode fuel).2.2)]), (5, 51, .slice o7.A o7.n o7.c), (6, 52, .slice o8.A o8.n o8.c), (7, 53, .bool ((kindsP (toP l0) js hs mode fuel).2.2)), (8, 13, .slice o7.A o7.n o7.c), (9, 14, .slice o8.A o8.n o8.c), (10, 15, .bool ((kindsP (toP l0) js hs mode fuel).2.2))] ha fun a ha => ?_
 refine jY (jJ (wp_seq (wp_seq (jX [0, 1, 2, 3, 4, 5, 6, 7, 8, 9, 10, 11, 12, 13, 14] (jQ [(0, 54, .slice o7.A o7.n o7.c), (1, 55, .slice o3.A o3.n o3.c)] ha fun a ha => ?_)))))
 refine jK (qK 56 (vs := [.slice o7.A o7.n o7.c, .slice o3.A o3.n o3.c]) ha (eqIntS_sat hS (hS.rdRow (s := o7) 0 rfl) (hS.rdRow (s := o3) 7 rfl)) fun v27 w a hp28 ha => ?_)
 obtain ⟨rfl, hS⟩ := hp28
 refine jQ [(3, 57, .bool false), (4, 58, .bool false), (5, 59, .slice o8.A o8.n o8.c), (6, 60, .slice o4.A o4.n o4.c)] ha fun a ha => ?_
 refine jK (qK 61 (vs := [.slice o8.A o8.n o8.c, .slice o4.A o4.n o4.c]) ha (eqIntS_sat hS (hS.rdRow (s := o8) 1 rfl) (hS.rdRow (s := o4) 8 rfl)) fun v29 w a hp30 ha => ?_)
 obtain ⟨rfl, hS⟩ := hp30
 refine jQ [(8, 62, .bool false), (9, 63, .bool false), (10, 64, .bool false), (11, 65, .bool ((kindsP (toP l0) js hs mode fuel).2.2)), (12, 66, .bool ((kindsP (toP l0) js hs mode fuel).2.2))] ha fun a ha => ?_
 refine yK (.bool false) ha ((qG (v := .bool (!(((kindsP (toP l0) js hs mode fuel).2.2) == ((kindsP (toP l0) js hs mode fuel).2.2)))) ha (AtG.here (gd := 64) ⟨(by kernel_rfl : ((qQ Try.f4 12)[13]?).map spec = some ((Op.binOp BinOp.neq 4 (Operand.tmp 65) (Operand.tmp 66) 4), some 67, 4, some (10, false))), by kernel_rfl⟩ ha rfl) (by kernel_rfl) (fun _ => by kernel_rfl)).as (by simp)) fun a ha => ?_
 refine jQ [(14, 68, .bool false)] ha fun a ha => ?_
 refine jY ?_
 replace ha := ha.as [(2, iv fuel), (3, ptr b1 0), (4, ptr b3 0), (6, .bool false), (8, .slice o3.A o3.n o3.c), (9, .slice o4.A o4.n o4.c), (10, .bool ((kindsP (toP l0) js hs mode fuel).2.2)), (11, ptr b19 0), (12, ptr b23 0), (13, .slice o7.A o7.n o7.c), (14, .slice o8.A o8.n o8.c), (15, .bool ((kindsP (toP l0) js hs mode fuel).2.2)), (68, .bool false)] rfl
 refine jJ ?_
 refine jW ha rfl rfl ?_
 refine wp_skip (jJ (wp_seq (wp_seq (xX 5 5 (hS.pickN 14 [2, 5, 12, 13]) hS fun w hS => ?_))))
 refine xK 0 69 ha (hS.pickN 14 [2, 5, 12, 13]) (fun _ hw => hw.blk 1 rfl) fun a ha => ?_
 refine xK 1 70 ha (hS.pickN 14 [2, 5, 12, 13]) (fun _ hw => hw.blk 3 rfl) fun a ha => ?_
 refine jV 2 (qK 71 (vs := [.agg #[.slice s0.A s0.n s0.c]]) ha (toProgram_sat hS (hr0.sat hS) hf0) fun v31 w a hp32 ha => ?_)
 obtain ⟨sp3, rfl, hS⟩ := hp32
 refine ⟨.inr (hS.pickN 15 [3, 6, 13, 14]), ?_⟩
 refine jV 3 (qK 72 (vs := [.agg #[.slice sp2.A sp2.n sp2.c], .agg #[.slice sp3.A sp3.n sp3.c]]) ha (eqP_sat hS (hS.rdS 7 rfl) (hS.rdS 0 rfl) (toP_fits hf0)) fun v33 w a hp34 ha => ?_)
 obtain ⟨rfl, hS⟩ := hp34
 refine ⟨.inr (hS.pickN 15 [3, 6, 13, 14]), ?_⟩
 refine jZ (k := 0) [(4, 73, .bool false)] ha (.inr (hS.pickN 15 [3, 6, 13, 14])) fun a ha => ?_
 refine qH (jJ ?_)
 refine jW ha rfl rfl ?_
 refine wp_skip (jJ (wp_seq (wp_seq (xX 5 5 (hS.pickN 15 [3, 6, 13, 14]) hS fun w hS => ?_))))
 refine xK 0 74 ha (hS.pickN 15 [3, 6, 13, 14]) (fun _ hw => hw.blk 0 rfl) fun a ha => ?_
 refine xK 1 75 ha (hS.pickN 15 [3, 6, 13, 14]) (fun _ hw => hw.blk 2 rfl) fun a ha => ?_
 refine jV 2 (qK 76 (vs := [.agg #[.slice rjs.A rjs.n rjs.c, .slice rhs.A rhs.n rhs.c, iv mode]]) ha (toSession_sat hS (hrjs.sat hS) (hrhs.sat hS) (by omega) (by omega)) fun v35 w a hp36 ha => ?_)
 obtain ⟨o9, o10, rfl, hS⟩ := hp36
 refine ⟨.inr (hS.pickN 17 [5, 8, 15, 16]), ?_⟩
 refine jV 3 (qK 77 (vs := [.agg #[.slice o5.A o5.n o5.c, .slice o6.A o6.n o6.c, iv mode], .agg #[.slice o9.A o9.n o9.c, .slice o10.A o10.n o10.c, iv mode]]) ha (eqSession_sat hS (hS.rdE (s := o5) 6 yQ (by decide) rfl) (hS.rdRow (s := o6) 7 rfl) (hS.rdE (s := o9) 0 yQ (by decide) rfl) (hS.rdRow (s := o10) 1 rfl)) fun v37 w a hp38 ha => ?_)
 obtain ⟨rfl, hS⟩ := hp38
 refine ⟨.inr (hS.pickN 17 [5, 8, 15, 16]), ?_⟩
 refine jZ (k := 0) [(4, 78, .bool false)] ha (.inr (hS.pickN 17 [5, 8, 15, 16])) fun a ha => ?_
 refine qH (jJ ?_)
 refine jW ha rfl rfl ?_
 refine wp_skip (jJ (wp_seq (jX [0] (jQ [(0, 16, iv 1)] ha fun a ha => ?_))))
 refine jY (jJ (wp_seq (jX [0, 1, 2, 3] (yG 79 ha (hS.blk 8 rfl) fun a ha => ?_))))
 refine jQ [(1, 80, iv 1)] ha fun a ha => ?_
 replace hS := hS.pickN 17 [9, 0, 1, 2, 3, 4, 5, 6, 7, 8, 10, 11, 12, 13, 14, 15, 16]
 refine jK (qK 81 (vs := [.agg #[.slice sp2.A sp2.n sp2.c], iv 1]) ha (markProgram_sat hS (toP_fits hf0) (by omega) (by omega)) fun v39 w a hp40 ha => ?_)
 obtain ⟨rfl, hS⟩ := hp40
 refine jQ [(3, 16, iv (1 + 3 * (tot (toP l0) : Int)))] ha fun a ha => ?_
 refine jY ?_
 replace ha := ha.as [(2, iv fuel), (3, ptr b1 0), (4, ptr b3 0), (6, .bool false), (8, .slice o3.A o3.n o3.c), (9, .slice o4.A o4.n o4.c), (10, .bool ((kindsP (toP l0) js hs mode fuel).2.2)), (12, ptr b23 0), (13, .slice o7.A o7.n o7.c), (14, .slice o8.A o8.n o8.c), (15, .bool ((kindsP (toP l0) js hs mode fuel).2.2)), (16, iv (1 + 3 * (tot (toP l0) : Int)))] rfl
 refine jJ (wp_seq (jX [0, 1, 2, 3] (yG 82 ha (hS.blk 6 rfl) fun a ha => ?_)))
 refine jQ [(1, 83, iv (1 + 3 * (tot (toP l0) : Int)))] ha fun a ha => ?_
 replace hS := hS.pickN 17 [7, 8, 0, 1, 2, 3, 4, 5, 6, 9, 10, 11, 12, 13, 14, 15, 16]
 refine jK (qK 84 (vs := [.agg #[.slice o5.A o5.n o5.c, .slice o6.A o6.n o6.c, iv mode], iv (1 + 3 * (tot (toP l0) : Int))]) ha (markSession_sat hS (by omega) (by omega) (by omega) (by omega)) fun v41 w a hp42 ha => ?_)
 obtain ⟨rfl, hS⟩ := hp42
 refine jQ [(3, 16, iv ((1 + 3 * (tot (toP l0) : Int)) + 2 * (js.length : Int) + (hs.length : Int)))] ha fun a ha => ?_
 refine jY (jJ (wp_seq (wp_seq (jX [0, 1, 2, 3, 4, 5, 6, 7, 8, 9, 10, 11, 12, 13, 14, 15, 16, 17, 18] (jQ [(0, 85, iv ((1 + 3 * (tot (toP l0) : Int)) + 2 * (js.length : Int) + (hs.length : Int)))] ha fun a ha => ?_)))))
 refine yK (.bool false) ha ((qG (v := .bool (decide ((1 + 3 * (tot (toP l0) : Int)) + 2 * (js.length : Int) + (hs.length : Int) < 0))) ha (zV (op := (Op.binOp BinOp.lss 3 (Operand.tmp 85) (Operand.const (Value.int IntKind.i64 0)) 3)) (d := some 86) (ty := 4)) (by kernel_rfl) (fun _ => by kernel_rfl)).as (by rw [decide_eq_false (by omega)])) fun a ha => ?_
 refine jQ [(2, 87, .bool false), (3, 88, .slice o7.A o7.n o7.c), (4, 89, .slice o3.A o3.n o3.c)] ha fun a ha => ?_
 refine jK (qK 90 (vs := [.slice o7.A o7.n o7.c, .slice o3.A o3.n o3.c]) ha (eqIntS_sat hS (hS.rdRow (s := o7) 6 rfl) (hS.rdRow (s := o3) 10 rfl)) fun v43 w a hp44 ha => ?_)
 obtain ⟨rfl, hS⟩ := hp44
 refine jQ [(6, 91, .bool false), (7, 92, .bool false), (8, 93, .bool false), (9, 94, .slice o8.A o8.n o8.c), (10, 95, .slice o4.A o4.n o4.c)] ha fun a ha => ?_
 refine jK (qK 96 (vs := [.slice o8.A o8.n o8.c, .slice o4.A o4.n o4.c]) ha (eqIntS_sat hS (hS.rdRow (s := o8) 7 rfl) (hS.rdRow (s := o4) 11 rfl)) fun v45 w a hp46 ha => ?_)
 obtain ⟨rfl, hS⟩ := hp46
 refine jQ [(12, 97, .bool false), (13, 98, .bool false), (14, 99, .bool false), (15, 100, .bool ((kindsP (toP l0) js hs mode fuel).2.2)), (16, 101, .bool ((kindsP (toP l0) js hs mode fuel).2.2))] ha fun a ha => ?_
 refine yK (.bool false) ha ((qG (v := .bool (!(((kindsP (toP l0) js hs mode fuel).2.2) == ((kindsP (toP l0) js hs mode fuel).2.2)))) ha (AtG.here (gd := 99) ⟨(by kernel_rfl : ((qQ Try.f4 21)[17]?).map spec = some ((Op.binOp BinOp.neq 4 (Operand.tmp 100) (Operand.tmp 101) 4), some 102, 4, some (14, false))), by kernel_rfl⟩ ha rfl) (by kernel_rfl) (fun _ => by kernel_rfl)).as (by simp)) fun a ha => ?_
 refine jQ [(18, 103, .bool false)] ha fun a ha => ?_
 refine jY ?_
 replace ha := ha.as [(2, iv fuel), (3, ptr b1 0), (4, ptr b3 0), (6, .bool false), (8, .slice o3.A o3.n o3.c), (9, .slice o4.A o4.n o4.c), (10, .bool ((kindsP (toP l0) js hs mode fuel).2.2)), (13, .slice o7.A o7.n o7.c), (14, .slice o8.A o8.n o8.c), (103, .bool false)] rfl
 refine jJ ?_
 refine jW ha rfl rfl ?_
 refine wp_skip (jJ (wp_seq (jX [0] (jQ [(0, 17, iv 1)] ha fun a ha => ?_))))
 refine jY (jJ (wp_seq (jX [0, 1, 2, 3] (jQ [(0, 104, .slice o7.A o7.n o7.c), (1, 105, iv 1)] ha fun a ha => ?_))))
 have hlb := kindsP_len (toP l0) js hs mode fuel
 replace hS := hS.pickN 17 [6, 0, 1, 2, 3, 4, 5, 7, 8, 9, 10, 11, 12, 13, 14, 15, 16]
 refine jK (qK 106 (vs := [.slice o7.A o7.n o7.c, iv 1]) ha (markG_sat hS (by omega) (by omega) (Nat.le_trans (kindsP_len ..).1 (by decide))) fun v47 w a hp48 ha => ?_)
 obtain ⟨rfl, hS⟩ := hp48
 refine jQ [(3, 17, iv (1 + (((kindsP (toP l0) js hs mode fuel).1).length : Int)))] ha fun a ha => ?_
 refine jY (jJ (wp_seq (jX [0, 1, 2, 3] (jQ [(0, 107, .slice o8.A o8.n o8.c), (1, 108, iv (1 + (((kindsP (toP l0) js hs mode fuel).1).length : Int)))] ha fun a ha => ?_))))
 have hlb := kindsP_len (toP l0) js hs mode fuel
 replace hS := hS.pickN 17 [7, 0, 1, 2, 3, 4, 5, 6, 8, 9, 10, 11, 12, 13, 14, 15, 16]
 refine jK (qK 109 (vs := [.slice o8.A o8.n o8.c, iv (1 + (((kindsP (toP l0) js hs mode fuel).1).length : Int))]) ha (markG_sat hS (by omega) (by omega) (Nat.le_trans (kindsP_len ..).2 (by decide))) fun v49 w a hp50 ha => ?_)
 obtain ⟨rfl, hS⟩ := hp50
 refine jQ [(3, 17, iv ((1 + (((kindsP (toP l0) js hs mode fuel).1).length : Int)) + (((kindsP (toP l0) js hs mode fuel).2.1).length : Int)))] ha fun a ha => ?_
 refine jY (jJ (wp_seq (jX [0] (jQ [(0, 18, iv 1)] ha fun a ha => ?_))))
 refine jY (jJ (wp_seq (jX [0, 1, 2, 3] (jQ [(0, 110, .slice o7.A o7.n o7.c), (1, 111, iv 1)] ha fun a ha => ?_))))
 have hlb := kindsP_len (toP l0) js hs mode fuel
 refine jK (qK 112 (vs := [.slice o7.A o7.n o7.c, iv 1]) ha (heldI_sat hS (hS.rdRow (s := o7) 1 rfl) (Nat.le_trans (kindsP_len ..).1 (by decide))) fun v51 w a hp52 ha => ?_)
 obtain ⟨rfl, hS⟩ := hp52
 refine jQ [(3, 18, iv (1 + (((kindsP (toP l0) js hs mode fuel).1).length : Int)))] ha fun a ha => ?_
 refine jY (jJ (wp_seq (wp_seq (jX [0, 1] (jQ [(0, 113, iv (1 + (((kindsP (toP l0) js hs mode fuel).1).length : Int)))] ha fun a ha => ?_)))))
 refine yK (.bool false) ha ((qG (v := .bool (decide (1 + (((kindsP (toP l0) js hs mode fuel).1).length : Int) < 0))) ha (zV (op := (Op.binOp BinOp.lss 3 (Operand.tmp 113) (Operand.const (Value.int IntKind.i64 0)) 3)) (d := some 114) (ty := 4)) (by kernel_rfl) (fun _ => by kernel_rfl)).as (by rw [decide_eq_false (by omega)])) fun a ha => ?_
 refine jY (jJ ?_)
 refine jW ha rfl rfl ?_
 refine wp_skip (jJ (wp_seq (jX [0, 1, 2, 3] (jQ [(0, 115, .slice o8.A o8.n o8.c), (1, 116, iv (1 + (((kindsP (toP l0) js hs mode fuel).1).length : Int)))] ha fun a ha => ?_))))
 have hlb := kindsP_len (toP l0) js hs mode fuel
 refine jK (qK 117 (vs := [.slice o8.A o8.n o8.c, iv (1 + (((kindsP (toP l0) js hs mode fuel).1).length : Int))]) ha (heldI_sat hS (hS.rdRow (s := o8) 0 rfl) (Nat.le_trans (kindsP_len ..).2 (by decide))) fun v53 w a hp54 ha => ?_)
 obtain ⟨rfl, hS⟩ := hp54
 refine jQ [(3, 18, iv ((1 + (((kindsP (toP l0) js hs mode fuel).1).length : Int)) + (((kindsP (toP l0) js hs mode fuel).2.1).length : Int)))] ha fun a ha => ?_
 refine jY ?_
 replace ha := ha.as [(2, iv fuel), (3, ptr b1 0), (4, ptr b3 0), (6, .bool false), (8, .slice o3.A o3.n o3.c), (9, .slice o4.A o4.n o4.c), (10, .bool ((kindsP (toP l0) js hs mode fuel).2.2)), (13, .slice o7.A o7.n o7.c), (14, .slice o8.A o8.n o8.c), (17, iv ((1 + (((kindsP (toP l0) js hs mode fuel).1).length : Int)) + (((kindsP (toP l0) js hs mode fuel).2.1).length : Int))), (18, iv ((1 + (((kindsP (toP l0) js hs mode fuel).1).length : Int)) + (((kindsP (toP l0) js hs mode fuel).2.1).length : Int)))] rfl
 refine jJ (wp_seq (wp_seq (jX [0, 1] (jQ [(0, 118, iv ((1 + (((kindsP (toP l0) js hs mode fuel).1).length : Int)) + (((kindsP (toP l0) js hs mode fuel).2.1).length : Int)))] ha fun a ha => ?_))))
 refine yK (.bool false) ha ((qG (v := .bool (decide ((1 + (((kindsP (toP l0) js hs mode fuel).1).length : Int)) + (((kindsP (toP l0) js hs mode fuel).2.1).length : Int) < 0))) ha (zV (op := (Op.binOp BinOp.lss 3 (Operand.tmp 118) (Operand.const (Value.int IntKind.i64 0)) 3)) (d := some 119) (ty := 4)) (by kernel_rfl) (fun _ => by kernel_rfl)).as (by rw [decide_eq_false (by omega)])) fun a ha => ?_
 refine jY (jJ ?_)
 refine jW ha rfl rfl ?_
 refine wp_skip (jJ (wp_seq (wp_seq (jX [0, 1, 2] (jQ [(0, 120, iv ((1 + (((kindsP (toP l0) js hs mode fuel).1).length : Int)) + (((kindsP (toP l0) js hs mode fuel).2.1).length : Int))), (1, 121, iv ((1 + (((kindsP (toP l0) js hs mode fuel).1).length : Int)) + (((kindsP (toP l0) js hs mode fuel).2.1).length : Int)))] ha fun a ha => ?_)))))
 refine yK (.bool false) ha ((qG (v := .bool (!(decide ((1 + (((kindsP (toP l0) js hs mode fuel).1).length : Int)) + (((kindsP (toP l0) js hs mode fuel).2.1).length : Int) = (1 + (((kindsP (toP l0) js hs mode fuel).1).length : Int)) + (((kindsP (toP l0) js hs mode fuel).2.1).length : Int))))) ha (zV (op := (Op.binOp BinOp.neq 3 (Operand.tmp 120) (Operand.tmp 121) 3)) (d := some 122) (ty := 4)) (by kernel_rfl) (fun _ => by kernel_rfl)).as (by simp)) fun a ha => ?_
 refine jY (jJ ?_)
 refine jW ha rfl rfl ?_
 refine wp_skip (jJ (wp_seq (xX 13 13 (hS.pickN 17 [8, 9, 15, 16]) hS fun w hS => ?_)))
 refine xK 0 124 ha (hS.pickN 17 [8, 9, 15, 16]) (fun _ hw => hw.blk 3 rfl) fun a ha => ?_
 refine xK 2 126 ha (hS.pickN 17 [8, 9, 15, 16]) (fun _ hw => hw.blk 2 rfl) fun a ha => ?_
 refine jZ (k := 10) [(4, 128, iv fuel)] ha (.inr (hS.pickN 17 [8, 9, 15, 16])) fun a ha => ?_
 refine jV 1 (qK 125 (vs := [.agg #[.slice s0.A s0.n s0.c]]) ha (toProgram_sat hS (hr0.sat hS) hf0) fun v55 w a hp56 ha => ?_)
 obtain ⟨sp4, rfl, hS⟩ := hp56
 refine ⟨.inr (hS.pickN 18 [9, 10, 16, 17]), ?_⟩
 refine jV 3 (qK 127 (vs := [.agg #[.slice rjs.A rjs.n rjs.c, .slice rhs.A rhs.n rhs.c, iv mode]]) ha (toSession_sat hS (hrjs.sat hS) (hrhs.sat hS) (by omega) (by omega)) fun v57 w a hp58 ha => ?_)
 obtain ⟨o11, o12, rfl, hS⟩ := hp58
 refine ⟨.inr (hS.pickN 20 [11, 12, 18, 19]), ?_⟩
 refine jV 5 (qK 129 (vs := [.agg #[.slice sp4.A sp4.n sp4.c], .agg #[.slice o11.A o11.n o11.c, .slice o12.A o12.n o12.c, iv mode], iv fuel]) ha (impl_SessionKinds_sat hS (hS.rdS 2 rfl) (toP_fits hf0) (hS.rdE (s := o11) 0 yQ (by decide) rfl) (hS.rdRow (s := o12) 1 rfl)) fun v59 w a hp60 ha => ?_)
 obtain ⟨o13, o14, rfl, hS⟩ := hp60
 refine ⟨.inr (hS.pickN 22 [13, 14, 20, 21]), ?_⟩
 refine jZ (k := 0) [(6, 123, .tuple #[.slice o13.A o13.n o13.c, .slice o14.A o14.n o14.c, .bool ((kindsP (toP l0) js hs mode fuel).2.2)]), (7, 130, .slice o13.A o13.n o13.c), (8, 131, .slice o14.A o14.n o14.c), (9, 132, .bool ((kindsP (toP l0) js hs mode fuel).2.2)), (10, 19, .slice o13.A o13.n o13.c), (11, 20, .slice o14.A o14.n o14.c), (12, 21, .bool ((kindsP (toP l0) js hs mode fuel).2.2))] ha (.inr (hS.pickN 22 [13, 14, 20, 21])) fun a ha => ?_
 refine qH ?_
 replace ha := ha.as [(6, .bool false), (8, .slice o3.A o3.n o3.c), (9, .slice o4.A o4.n o4.c), (10, .bool ((kindsP (toP l0) js hs mode fuel).2.2)), (13, .slice o7.A o7.n o7.c), (14, .slice o8.A o8.n o8.c), (17, iv ((1 + (((kindsP (toP l0) js hs mode fuel).1).length : Int)) + (((kindsP (toP l0) js hs mode fuel).2.1).length : Int))), (18, iv ((1 + (((kindsP (toP l0) js hs mode fuel).1).length : Int)) + (((kindsP (toP l0) js hs mode fuel).2.1).length : Int))), (19, .slice o13.A o13.n o13.c), (20, .slice o14.A o14.n o14.c), (21, .bool ((kindsP (toP l0) js hs mode fuel).2.2))] rfl
 refine jJ (wp_seq (wp_seq (jX [0, 1, 2, 3, 4, 5, 6, 7, 8, 9, 10, 11, 12, 13, 14] (jQ [(0, 133, .slice o13.A o13.n o13.c), (1, 134, .slice o3.A o3.n o3.c)] ha fun a ha => ?_))))
 refine jK (qK 135 (vs := [.slice o13.A o13.n o13.c, .slice o3.A o3.n o3.c]) ha (eqIntS_sat hS (hS.rdRow (s := o13) 0 rfl) (hS.rdRow (s := o3) 15 rfl)) fun v61 w a hp62 ha => ?_)
 obtain ⟨rfl, hS⟩ := hp62
 refine jQ [(3, 136, .bool false), (4, 137, .bool false), (5, 138, .slice o14.A o14.n o14.c), (6, 139, .slice o4.A o4.n o4.c)] ha fun a ha => ?_
 refine jK (qK 140 (vs := [.slice o14.A o14.n o14.c, .slice o4.A o4.n o4.c]) ha (eqIntS_sat hS (hS.rdRow (s := o14) 1 rfl) (hS.rdRow (s := o4) 16 rfl)) fun v63 w a hp64 ha => ?_)
 obtain ⟨rfl, hS⟩ := hp64
 refine jQ [(8, 141, .bool false), (9, 142, .bool false), (10, 143, .bool false), (11, 144, .bool ((kindsP (toP l0) js hs mode fuel).2.2)), (12, 145, .bool ((kindsP (toP l0) js hs mode fuel).2.2))] ha fun a ha => ?_
 refine yK (.bool false) ha ((qG (v := .bool (!(((kindsP (toP l0) js hs mode fuel).2.2) == ((kindsP (toP l0) js hs mode fuel).2.2)))) ha (AtG.here (gd := 143) ⟨(by kernel_rfl : ((qQ Try.f4 36)[13]?).map spec = some ((Op.binOp BinOp.neq 4 (Operand.tmp 144) (Operand.tmp 145) 4), some 146, 4, some (10, false))), by kernel_rfl⟩ ha rfl) (by kernel_rfl) (fun _ => by kernel_rfl)).as (by simp)) fun a ha => ?_
 refine jQ [(14, 147, .bool false)] ha fun a ha => ?_
 refine jY ?_
 replace ha := ha.as [(6, .bool false), (13, .slice o7.A o7.n o7.c), (14, .slice o8.A o8.n o8.c), (17, iv ((1 + (((kindsP (toP l0) js hs mode fuel).1).length : Int)) + (((kindsP (toP l0) js hs mode fuel).2.1).length : Int))), (18, iv ((1 + (((kindsP (toP l0) js hs mode fuel).1).length : Int)) + (((kindsP (toP l0) js hs mode fuel).2.1).length : Int))), (147, .bool false)] rfl
 refine jJ ?_
 refine jW ha rfl rfl ?_
 refine wp_skip (jJ (wp_seq (jX [0] (jQ [(0, 18, iv 1)] ha fun a ha => ?_))))
 refine jY (jJ (wp_seq (jX [0, 1, 2, 3] (jQ [(0, 148, .slice o7.A o7.n o7.c), (1, 149, iv 1)] ha fun a ha => ?_))))
 have hlb := kindsP_len (toP l0) js hs mode fuel
 refine jK (qK 150 (vs := [.slice o7.A o7.n o7.c, iv 1]) ha (heldI_sat hS (hS.rdRow (s := o7) 6 rfl) (Nat.le_trans (kindsP_len ..).1 (by decide))) fun v65 w a hp66 ha => ?_)
 obtain ⟨rfl, hS⟩ := hp66
 refine jQ [(3, 18, iv (1 + (((kindsP (toP l0) js hs mode fuel).1).length : Int)))] ha fun a ha => ?_
 refine jY (jJ (wp_seq (wp_seq (jX [0, 1] (jQ [(0, 151, iv (1 + (((kindsP (toP l0) js hs mode fuel).1).length : Int)))] ha fun a ha => ?_)))))
 refine yK (.bool false) ha ((qG (v := .bool (decide (1 + (((kindsP (toP l0) js hs mode fuel).1).length : Int) < 0))) ha (zV (op := (Op.binOp BinOp.lss 3 (Operand.tmp 151) (Operand.const (Value.int IntKind.i64 0)) 3)) (d := some 152) (ty := 4)) (by kernel_rfl) (fun _ => by kernel_rfl)).as (by rw [decide_eq_false (by omega)])) fun a ha => ?_
 refine jY (jJ ?_)
 refine jW ha rfl rfl ?_
 refine wp_skip (jJ (wp_seq (jX [0, 1, 2, 3] (jQ [(0, 153, .slice o8.A o8.n o8.c), (1, 154, iv (1 + (((kindsP (toP l0) js hs mode fuel).1).length : Int)))] ha fun a ha => ?_))))
 have hlb := kindsP_len (toP l0) js hs mode fuel
 refine jK (qK 155 (vs := [.slice o8.A o8.n o8.c, iv (1 + (((kindsP (toP l0) js hs mode fuel).1).length : Int))]) ha (heldI_sat hS (hS.rdRow (s := o8) 5 rfl) (Nat.le_trans (kindsP_len ..).2 (by decide))) fun v67 w a hp68 ha => ?_)
 obtain ⟨rfl, hS⟩ := hp68
 refine jQ [(3, 18, iv ((1 + (((kindsP (toP l0) js hs mode fuel).1).length : Int)) + (((kindsP (toP l0) js hs mode fuel).2.1).length : Int)))] ha fun a ha => ?_
 refine jY (jJ (wp_seq (wp_seq (jX [0, 1] (jQ [(0, 156, iv ((1 + (((kindsP (toP l0) js hs mode fuel).1).length : Int)) + (((kindsP (toP l0) js hs mode fuel).2.1).length : Int)))] ha fun a ha => ?_)))))
 refine yK (.bool false) ha ((qG (v := .bool (decide ((1 + (((kindsP (toP l0) js hs mode fuel).1).length : Int)) + (((kindsP (toP l0) js hs mode fuel).2.1).length : Int) < 0))) ha (zV (op := (Op.binOp BinOp.lss 3 (Operand.tmp 156) (Operand.const (Value.int IntKind.i64 0)) 3)) (d := some 157) (ty := 4)) (by kernel_rfl) (fun _ => by kernel_rfl)).as (by rw [decide_eq_false (by omega)])) fun a ha => ?_
 refine jY (jJ ?_)
 refine jW ha rfl rfl ?_
 refine wp_skip (jJ (wp_seq (wp_seq (jX [0, 1, 2] (jQ [(0, 158, iv ((1 + (((kindsP (toP l0) js hs mode fuel).1).length : Int)) + (((kindsP (toP l0) js hs mode fuel).2.1).length : Int))), (1, 159, iv ((1 + (((kindsP (toP l0) js hs mode fuel).1).length : Int)) + (((kindsP (toP l0) js hs mode fuel).2.1).length : Int)))] ha fun a ha => ?_)))))
 refine yK (.bool false) ha ((qG (v := .bool (!(decide ((1 + (((kindsP (toP l0) js hs mode fuel).1).length : Int)) + (((kindsP (toP l0) js hs mode fuel).2.1).length : Int) = (1 + (((kindsP (toP l0) js hs mode fuel).1).length : Int)) + (((kindsP (toP l0) js hs mode fuel).2.1).length : Int))))) ha (zV (op := (Op.binOp BinOp.neq 3 (Operand.tmp 158) (Operand.tmp 159) 3)) (d := some 160) (ty := 4)) (by kernel_rfl) (fun _ => by kernel_rfl)).as (by simp)) fun a ha => ?_
 refine jY ?_
 replace ha := ha.as [(6, .bool false), (160, .bool false)] rfl
 refine jJ ?_
 refine jW ha rfl rfl ?_
 refine wp_skip (jJ (wp_seq (jX [0] (jQ [(0, 6, .bool true)] ha fun a ha => ?_))))
 refine jY (jJ (wp_ret (jH ha (by kernel_rfl) (xZ (t := 6) ha rfl) ?_)))
 exact ⟨rfl, hS.below⟩
end Go.Proofs.Ytjkoibfkklhaiaa.G
