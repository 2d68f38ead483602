/- What the claim FnExactCanExchange rests on, part 26 of 27; the last part proves it: for every input the law answers true, and its arguments read behind the call as before it. No condition. -/
import Derived.Test.YtpenhegoilccoaaQCanExchange19
import Derived.Test.YtpenhegoilccoaaQCanExchange21
import Derived.Test.YtpenhegoilccoaaQCanExchange24
import Derived.Test.YtpenhegoilccoaaQCanExchange25
set_option linter.unusedSimpArgs false
set_option linter.unusedVariables false
set_option maxRecDepth 20000
set_option maxHeartbeats 1000000
namespace Go.Proofs.Ytpenhegoilccoaa.G
open Go.RowKit Go.Proofs.Ytpenhegoilccoaa.SX Go.Proofs.YtpenhegoilccoaaW.PrintWords Go.Proofs.YtpenhegoilccoaaW.PrintLast Go.Proofs.YtpenhegoilccoaaW.PrintMore
theorem code81 : Try.f81.body = some (Code.seq (cr Try.f81 0 false) (Code.seq (cr Try.f81 1 false) Code.ret)) := by kernel_rfl
theorem ocont_sat0 {w0 : World} {se : Sl} {es : List Int} {x : Int} (hre : RdI w0 se es) :
  Calls Try.prog 81 #[.slice se.A se.n se.c, .int .i64 x] w0 (Ret fun r w' => r = .bool (es.contains x) ∧ Sat w0 w' []) := by
 have hS : Sat w0 w0 [] := Sat.start w0
 have hxx := idxI_le es x
 have hbig := hre.big
 refine enter (n := 9) Try.func81 code81 (by kernel_rfl) (Nat.le_of_ble_eq_true rfl) (fun a ha => ?_)
 replace ha : Has 9 [(0, .slice se.A se.n se.c), (1, iv x)] a := ha
 refine wp_seq (jX [0] (jQ [(0, 4, .bool false)] ha fun a ha => ?_))
 refine jZ (jJ (wp_seq (jX [0, 1, 2, 3, 4] (jQ [(0, 5, .slice se.A se.n se.c), (1, 6, iv x)] ha fun a ha => ?_))))
 refine jH (qY 7 (vs := [.slice se.A se.n se.c, iv x]) ha (bidx_sat hS (hre.sat hS)) fun v1 w a hp2 ha => ?_)
 obtain ⟨rfl, hS⟩ := hp2
 refine jQ [(3, 8, .bool (decide ((idxI es x) ≥ 0))), (4, 4, .bool (decide ((idxI es x) ≥ 0)))] ha fun a ha => ?_
 refine jZ (jJ (wp_ret (jW ha (by kernel_rfl) (jG (t := 4) ha rfl) ?_)))
 have hE : es.contains x = decide ((idxI es x) ≥ 0) := by rw [Bool.eq_iff_iff, List.contains_iff_mem, decide_eq_true_iff]; exact idxI_mem.symm
 rw [hE]
 exact ⟨rfl, hS⟩
theorem ocont_sat {w0 w : World} {Rs : List Asn} {s : Sl} {l : List Int} (hS : Sat w0 w Rs) (hr : RdI w s l) (x : Int) :
  Calls Try.prog 81 #[.slice s.A s.n s.c, .int .i64 x] w (Ret fun r w' => r = .bool (l.contains x) ∧ Sat w0 w' Rs) := lift0 hS (ocont_sat0 hr)
def plainB (x : ST) : Bool := ([1, 2, 3, 12, 13] : List Int).contains x.f0
def sharedB (x : ST) : Bool := ([12, 13] : List Int).contains x.f0
def sharB2 (x y : ST) : Bool := sharedB x && sharedB y
def meetB (a b : List Int) : Bool := a.any fun r => b.contains r
def distB (x y : ST) : Bool := (writesP x).any fun r => (readsP y).contains r || (writesP y).contains r
def freeB (x y : ST) : Bool := !meetB (writesP x) (readsP y) && !meetB (writesP x) (writesP y) && !meetB (writesP y) (readsP x)
theorem any_or {p q : Int → Bool} : ∀ l : List Int, (l.any fun x => p x || q x) = (l.any p || l.any q)
 | [] => rfl
 | x :: l => by simp only [List.any_cons, any_or l]; cases p x <;> cases q x <;> cases l.any p <;> cases l.any q <;> rfl
theorem meet_comm (a b : List Int) : meetB a b = meetB b a := by
 rw [Bool.eq_iff_iff]
 simp only [meetB, List.any_eq_true, List.contains_iff_mem]
 constructor
 · rintro ⟨x, h1, h2⟩; exact ⟨x, h2, h1⟩
 · rintro ⟨x, h1, h2⟩; exact ⟨x, h2, h1⟩
theorem dist_meet (x y : ST) : distB x y = (meetB (writesP x) (readsP y) || meetB (writesP x) (writesP y)) := any_or _
theorem free_dist (x y : ST) : freeB x y = (!distB x y && !distB y x) := by
 rw [dist_meet, dist_meet, meet_comm (writesP y) (writesP x)]
 unfold freeB
 cases meetB (writesP x) (readsP y) <;> cases meetB (writesP x) (writesP y) <;> cases meetB (writesP y) (readsP x) <;> rfl
def exB (x y : ST) : Bool := plainB x && plainB y && !(decide (x.f0 = 3) && decide (y.f0 = 3)) && !sharB2 x y && (!distB x y && !distB y x)
def jmpB (a : Int) (x : ST) : Bool := decide (x.f0 = 11) && decide (x.f1 = a + 1)
def jumpB (b : List ST) (a : Int) : Bool := b.any (jmpB a)
def canP (l : List (List ST)) (f a : Int) : Bool × Bool := if placeB 2 l f a = true then (exB ((l.getD f.toNat []).getD a.toNat ⟨0, 0, 0⟩) ((l.getD f.toNat []).getD (a.toNat + 1) ⟨0, 0, 0⟩) && !jumpB (l.getD f.toNat []) a, true) else (false, false)
theorem canP_no {l : List (List ST)} {f a : Int} (h : placeB 2 l f a = false) : canP l f a = (false, false) := by unfold canP; rw [h]; rfl
theorem canP_yes {l : List (List ST)} {f a : Int} {b : List ST} {x y : ST} (h : placeB 2 l f a = true) (hb : l[f.toNat]? = some b) (hx : b[a.toNat]? = some x) (hy : b[a.toNat + 1]? = some y) : canP l f a = (exB x y && !jumpB b a, true) := by
 unfold canP; rw [if_pos h]; simp only [List.getD, hb, hx, hy, Option.getD_some]
theorem anyS_next {α : Type} {p : α → Bool} {l : List α} {i : Nat} {x : α} (hx : l[i]? = some x) (h0 : ∀ (j : Nat) z, j < i → l[j]? = some z → p z = false) (h : p x = false) : ∀ (j : Nat) z, j < i + 1 → l[j]? = some z → p z = false := by
 intro j z hj hz
 by_cases e : j = i
 · subst e; rw [hx] at hz; rw [← Option.some.inj hz]; exact h
 · exact h0 j z (by omega) hz
theorem anyS_no {α : Type} {p : α → Bool} {l : List α} (h0 : ∀ (j : Nat) z, j < l.length → l[j]? = some z → p z = false) : l.any p = false := by
 rw [List.any_eq_false]
 intro x hx
 obtain ⟨j, hj⟩ := List.getElem?_of_mem hx
 rw [h0 j x (List.getElem?_eq_some_iff.1 hj).1 hj]; decide
theorem anyS_yes {α : Type} {p : α → Bool} {l : List α} {i : Nat} {x : α} (hx : l[i]? = some x) (h : p x = true) : l.any p = true := List.any_eq_true.2 ⟨x, List.mem_of_getElem? hx, h⟩
theorem code60 : Try.f60.body = some (Code.seq (cr Try.f60 0 false) (Code.seq (cr Try.f60 1 false) Code.ret)) := by kernel_rfl
theorem plainI_sat {w0 w : World} {Rs : List Asn} {x : ST} (hS : Sat w0 w Rs) :
  Calls Try.prog 60 #[.agg #[iv x.f0, iv x.f1, iv x.f2]] w (Ret fun r w' => r = .bool (plainB x) ∧ Sat w0 w' Rs) := by
 refine enter (n := 7) Try.func60 code60 (by kernel_rfl) (Nat.le_of_ble_eq_true rfl) (fun a ha => ?_)
 replace ha : Has 7 [(0, .agg #[iv x.f0, iv x.f1, iv x.f2])] a := ha
 refine wp_seq (jX [0, 1] (jH (qX 1 [iv x.f0, iv x.f1, iv x.f2] 72 (ptr · 0) ha hS fun b1 w a hb2 hS ha => ?_)))
 refine jQ [(1, 2, .bool false)] ha fun a ha => ?_
 refine jZ (jJ (wp_seq (jX [0, 1, 2, 3, 4] (jH (qX 3 [iv 1, iv 2, iv 3, iv 12, iv 13] 3 (fun b => .slice (some ⟨b, 0, none⟩) 5 5) ha hS fun b3 w a hb4 hS ha => ?_)))))
 refine jQ [(1, 4, ptr b1 0)] ha fun a ha => ?_
 refine qW (d := 5) (b := b1) (j := 0) ha (hS.blk 1 rfl) rfl fun a ha => ?_
 replace hS := blkRow hS 1 5 0 rfl rfl (by decide)
 refine jH (qY 6 (vs := [.slice (some ⟨b3, 0, none⟩) 5 5, iv x.f0]) ha (ocont_sat (s := (⟨some ⟨b3, 0, none⟩, 5, 5⟩ : Sl)) hS (hS.rdRow (s := (⟨some ⟨b3, 0, none⟩, 5, 5⟩ : Sl)) (l := [1, 2, 3, 12, 13]) 0 rfl) x.f0) fun v5 w a hp6 ha => ?_)
 obtain ⟨rfl, hS⟩ := hp6
 refine jQ [(4, 2, .bool (([1, 2, 3, 12, 13] : List Int).contains x.f0))] ha fun a ha => ?_
 refine jZ (jJ (wp_ret (jW ha (by kernel_rfl) (jG (t := 2) ha rfl) ?_)))
 have hE : plainB x = (([1, 2, 3, 12, 13] : List Int).contains x.f0) := by unfold plainB; rfl
 rw [hE]
 exact ⟨rfl, Sat.rest [_, _] hS⟩
theorem code55 : Try.f55.body = some (Code.seq (cr Try.f55 0 false) (Code.seq (cr Try.f55 1 false) Code.ret)) := by kernel_rfl
theorem plainQ_sat {w0 w : World} {Rs : List Asn} {x : ST} (hS : Sat w0 w Rs) :
  Calls Try.prog 55 #[.agg #[iv x.f0, iv x.f1, iv x.f2]] w (Ret fun r w' => r = .bool (plainB x) ∧ Sat w0 w' Rs) := by
 refine enter (n := 7) Try.func55 code55 (by kernel_rfl) (Nat.le_of_ble_eq_true rfl) (fun a ha => ?_)
 replace ha : Has 7 [(0, .agg #[iv x.f0, iv x.f1, iv x.f2])] a := ha
 refine wp_seq (jX [0, 1] (jH (qX 1 [iv x.f0, iv x.f1, iv x.f2] 72 (ptr · 0) ha hS fun b1 w a hb2 hS ha => ?_)))
 refine jQ [(1, 2, .bool false)] ha fun a ha => ?_
 refine jZ (jJ (wp_seq (jX [0, 1, 2, 3, 4] (jH (qX 3 [iv 1, iv 2, iv 3, iv 12, iv 13] 3 (fun b => .slice (some ⟨b, 0, none⟩) 5 5) ha hS fun b3 w a hb4 hS ha => ?_)))))
 refine jQ [(1, 4, ptr b1 0)] ha fun a ha => ?_
 refine qW (d := 5) (b := b1) (j := 0) ha (hS.blk 1 rfl) rfl fun a ha => ?_
 replace hS := blkRow hS 1 5 0 rfl rfl (by decide)
 refine jH (qY 6 (vs := [.slice (some ⟨b3, 0, none⟩) 5 5, iv x.f0]) ha (bhas_sat (se := (⟨some ⟨b3, 0, none⟩, 5, 5⟩ : Sl)) hS (hS.rdRow (s := (⟨some ⟨b3, 0, none⟩, 5, 5⟩ : Sl)) (l := [1, 2, 3, 12, 13]) 0 rfl)) fun v5 w a hp6 ha => ?_)
 obtain ⟨rfl, hS⟩ := hp6
 refine jQ [(4, 2, .bool (([1, 2, 3, 12, 13] : List Int).contains x.f0))] ha fun a ha => ?_
 refine jZ (jJ (wp_ret (jW ha (by kernel_rfl) (jG (t := 2) ha rfl) ?_)))
 have hE : plainB x = (([1, 2, 3, 12, 13] : List Int).contains x.f0) := by unfold plainB; rfl
 rw [hE]
 exact ⟨rfl, Sat.rest [_, _] hS⟩
theorem code61 : Try.f61.body = some (Code.seq (cr Try.f61 0 false) (Code.seq (cr Try.f61 1 false) (Code.seq (cr Try.f61 2 false) Code.ret))) := by kernel_rfl
theorem shareI_sat {w0 w : World} {Rs : List Asn} {x y : ST} (hS : Sat w0 w Rs) :
  Calls Try.prog 61 #[.agg #[iv x.f0, iv x.f1, iv x.f2], .agg #[iv y.f0, iv y.f1, iv y.f2]] w (Ret fun r w' => r = .bool (sharB2 x y) ∧ Sat w0 w' Rs) := by
 refine enter (n := 17) Try.func61 code61 (by kernel_rfl) (Nat.le_of_ble_eq_true rfl) (fun a ha => ?_)
 replace ha : Has 17 [(0, .agg #[iv x.f0, iv x.f1, iv x.f2]), (1, .agg #[iv y.f0, iv y.f1, iv y.f2])] a := ha
 refine wp_seq (jX [0, 1, 2] (jH (qX 2 [iv x.f0, iv x.f1, iv x.f2] 72 (ptr · 0) ha hS fun b1 w a hb2 hS ha => ?_)))
 refine jH (qX 3 [iv y.f0, iv y.f1, iv y.f2] 72 (ptr · 0) ha hS fun b3 w a hb4 hS ha => ?_)
 refine jQ [(2, 4, .bool false)] ha fun a ha => ?_
 refine jZ (jJ (wp_seq (jX [0, 1] (jH (qX 6 [iv 12, iv 13] 3 (fun b => .slice (some ⟨b, 0, none⟩) 2 2) ha hS fun b5 w a hb6 hS ha => ?_)))))
 refine jQ [(1, 5, .slice (some ⟨b5, 0, none⟩) 2 2)] ha fun a ha => ?_
 refine jZ (jJ (wp_seq (jX [0, 1, 2, 3, 4, 5, 6, 7, 8, 9, 10] (jQ [(0, 7, .slice (some ⟨b5, 0, none⟩) 2 2), (1, 8, ptr b1 0)] ha fun a ha => ?_))))
 refine qW (d := 9) (b := b1) (j := 0) ha (hS.blk 2 rfl) rfl fun a ha => ?_
 replace hS := blkRow hS 1 2 0 rfl rfl (by decide)
 refine jH (qY 10 (vs := [.slice (some ⟨b5, 0, none⟩) 2 2, iv x.f0]) ha (ocont_sat (s := (⟨some ⟨b5, 0, none⟩, 2, 2⟩ : Sl)) hS (hS.rdRow (s := (⟨some ⟨b5, 0, none⟩, 2, 2⟩ : Sl)) (l := [12, 13]) 0 rfl) x.f0) fun v7 w a hp8 ha => ?_)
 obtain ⟨rfl, hS⟩ := hp8
 refine jQ [(4, 11, .bool (([12, 13] : List Int).contains x.f0))] ha fun a ha => ?_
 rcases Bool.eq_false_or_eq_true (([12, 13] : List Int).contains x.f0) with c9 | c9
 ·
  replace ha := ha.turn 10 (.bool true) rfl (congrArg Value.bool c9)
  replace ha := ha.turn 11 (.bool true) rfl (congrArg Value.bool c9)
  refine jQ [(5, 12, .slice ((⟨some ⟨b5, 0, none⟩, 2, 2⟩ : Sl).A) ((⟨some ⟨b5, 0, none⟩, 2, 2⟩ : Sl).n) ((⟨some ⟨b5, 0, none⟩, 2, 2⟩ : Sl).c)), (6, 13, ptr b3 0)] ha fun a ha => ?_
  refine qW (d := 14) (b := b3) (j := 0) ha (hS.blk 1 rfl) rfl fun a ha => ?_
  refine jH (qY 15 (vs := [.slice ((⟨some ⟨b5, 0, none⟩, 2, 2⟩ : Sl).A) ((⟨some ⟨b5, 0, none⟩, 2, 2⟩ : Sl).n) ((⟨some ⟨b5, 0, none⟩, 2, 2⟩ : Sl).c), iv y.f0]) ha (ocont_sat (s := (⟨some ⟨b5, 0, none⟩, 2, 2⟩ : Sl)) hS (hS.rdRow (s := (⟨some ⟨b5, 0, none⟩, 2, 2⟩ : Sl)) (l := [12, 13]) 0 rfl) y.f0) fun v10 w a hp11 ha => ?_)
  obtain ⟨rfl, hS⟩ := hp11
  refine jQ [(9, 16, .bool (([12, 13] : List Int).contains y.f0)), (10, 4, .bool (([12, 13] : List Int).contains y.f0))] ha fun a ha => ?_
  refine jZ ?_
  replace ha := ha.as [(4, .bool (([12, 13] : List Int).contains y.f0))] rfl
  refine jJ (wp_ret (jW ha (by kernel_rfl) (jG (t := 4) ha rfl) ?_))
  have hE : sharB2 x y = (([12, 13] : List Int).contains y.f0) := by unfold sharB2 sharedB; simp only [c9, eq_self, decide_true, decide_false, Bool.true_and, Bool.and_true, Bool.false_and, Bool.and_false, Bool.not_true, Bool.not_false, Bool.and_self]
  rw [hE]
  exact ⟨rfl, Sat.rest [_, _, _] hS⟩
 replace ha := ha.turn 10 (.bool false) rfl (congrArg Value.bool c9)
 replace ha := ha.turn 11 (.bool false) rfl (congrArg Value.bool c9)
 refine jQ [(5, 12, undef), (6, 13, undef), (7, 14, undef), (8, 15, undef), (9, 16, .bool false), (10, 4, .bool false)] ha fun a ha => ?_
 refine jZ ?_
 replace ha := ha.as [(4, .bool false)] rfl
 refine jJ (wp_ret (jW ha (by kernel_rfl) (jG (t := 4) ha rfl) ?_))
 have hE : sharB2 x y = false := by unfold sharB2 sharedB; simp only [c9, eq_self, decide_true, decide_false, Bool.true_and, Bool.and_true, Bool.false_and, Bool.and_false, Bool.not_true, Bool.not_false, Bool.and_self]
 rw [hE]
 exact ⟨rfl, Sat.rest [_, _, _] hS⟩
theorem code56 : Try.f56.body = some (Code.seq (cr Try.f56 0 false) (Code.seq (cr Try.f56 1 false) Code.ret)) := by kernel_rfl
theorem shareQ_sat {w0 w : World} {Rs : List Asn} {x : ST} (hS : Sat w0 w Rs) :
  Calls Try.prog 56 #[.agg #[iv x.f0, iv x.f1, iv x.f2]] w (Ret fun r w' => r = .bool (sharedB x) ∧ Sat w0 w' Rs) := by
 refine enter (n := 11) Try.func56 code56 (by kernel_rfl) (Nat.le_of_ble_eq_true rfl) (fun a ha => ?_)
 replace ha : Has 11 [(0, .agg #[iv x.f0, iv x.f1, iv x.f2])] a := ha
 refine wp_seq (jX [0, 1] (jH (qX 1 [iv x.f0, iv x.f1, iv x.f2] 72 (ptr · 0) ha hS fun b1 w a hb2 hS ha => ?_)))
 refine jQ [(1, 2, .bool false)] ha fun a ha => ?_
 refine jZ (jJ (wp_seq (jX [0, 1, 2, 3, 4, 5, 6, 7, 8] (jQ [(0, 3, ptr b1 0)] ha fun a ha => ?_))))
 refine qW (d := 4) (b := b1) (j := 0) ha (hS.blk 0 rfl) rfl fun a ha => ?_
 refine jQ [(2, 5, .bool (decide (x.f0 = 12))), (3, 6, .bool (decide (x.f0 = 12)))] ha fun a ha => ?_
 by_cases c3 : x.f0 = 12
 ·
  replace ha := ha.turn 5 (.bool true) rfl (congrArg Value.bool (decide_eq_true c3))
  replace ha := ha.turn 6 (.bool true) rfl (congrArg Value.bool (decide_eq_true c3))
  refine jQ [(4, 7, undef), (5, 8, undef), (6, 9, undef), (7, 10, .bool true), (8, 2, .bool true)] ha fun a ha => ?_
  refine jZ (jJ (wp_ret (jW ha (by kernel_rfl) (jG (t := 2) ha rfl) ?_)))
  have hE : sharedB x = true := by unfold sharedB; simp [c3]
  rw [hE]
  exact ⟨rfl, Sat.rest [_] hS⟩
 replace ha := ha.turn 5 (.bool false) rfl (congrArg Value.bool (decide_eq_false c3))
 replace ha := ha.turn 6 (.bool false) rfl (congrArg Value.bool (decide_eq_false c3))
 refine jQ [(4, 7, ptr b1 0)] ha fun a ha => ?_
 refine qW (d := 8) (b := b1) (j := 0) ha (hS.blk 0 rfl) rfl fun a ha => ?_
 refine jQ [(6, 9, .bool (decide (x.f0 = 13))), (7, 10, .bool (decide (x.f0 = 13))), (8, 2, .bool (decide (x.f0 = 13)))] ha fun a ha => ?_
 refine jZ (jJ (wp_ret (jW ha (by kernel_rfl) (jG (t := 2) ha rfl) ?_)))
 have hE : sharedB x = decide (x.f0 = 13) := by unfold sharedB; simp [c3]
 rw [hE]
 exact ⟨rfl, Sat.rest [_] hS⟩
theorem code158X : Try.f158.body = some (Code.seq (cr Try.f158 0 false) (Code.seq (Code.seq (cr Try.f158 1 false) (Code.block 0 (Code.loop (Code.seq (cr Try.f158 2 false) (Code.seq (Code.cond (Operand.tmp 9) Code.skip (Code.exit 0)) (Code.seq (Code.block 1 (Code.seq (cr Try.f158 3 false) (Code.seq (cr Try.f158 4 false) (Code.cond (Operand.tmp 16) (Code.seq (cr Try.f158 5 false) Code.ret) Code.skip)))) (cr Try.f158 6 false))))))) (Code.seq (cr Try.f158 7 false) Code.ret))) := by kernel_rfl
theorem idxF_sat {w0 w : World} {Rs : List Asn} {so : Sl} {l : List Int} {T9 : TypeId} {k9 F : Nat} {fn : Func} {cap : List Value} {p : Int → Bool} (hS : Sat w0 w Rs) (hk9 : Rs[k9]? = some (SX.row so.v T9 1 (SX.encI l))) (hfn : Try.prog.funcs[F]? = some fn) (hbn : (fn.body.isNone || fn.name == "runtime.NumGoroutine") = false)
  (hcl : ∀ (w1 : World) (x : Int), Sat w0 w1 Rs → Calls Try.prog F (.int .i64 x :: cap).toArray w1 (Ret fun r w' => r = .bool (p x) ∧ Sat w0 w' Rs)) :
  Calls Try.prog 158 #[.slice so.A so.n so.c, .func (.func F) #[] cap.toArray] w (Ret fun r w' => ∃ kx : Int, r = .int .i64 kx ∧ decide (kx ≥ 0) = l.any p ∧ Sat w0 w' Rs) := by
 have hsl := (hS.rdRow (s := so) k9 hk9).len
 have hbig := (hS.rdRow (s := so) k9 hk9).big
 refine enter (n := 19) Try.func158 code158X (by kernel_rfl) (Nat.le_of_ble_eq_true rfl) (fun a ha => ?_)
 replace ha : Has 19 [(0, .slice so.A so.n so.c), (1, (.func (.func F) #[] cap.toArray))] a := ha
 refine wp_seq (jX [0] (jQ [(0, 4, iv 0)] ha fun a ha => ?_))
 refine jZ (jJ (wp_seq (wp_seq (jX [0, 1, 2] (jQ [(0, 6, .slice so.A so.n so.c), (1, 7, iv (so.n : Int)), (2, 8, iv 0)] ha fun a ha => ?_)))))
 refine jZ (jJ (wp_block ?_))
 refine wp_loop_ghost (fun n_ a_ w_ => ∃ (i : Nat), n_ = l.length - i ∧ (i ≤ l.length) ∧ (∀ (j : Nat) z, j < i → l[j]? = some z → p z = false) ∧ Has 19 [(0, .slice so.A so.n so.c), (1, (.func (.func F) #[] cap.toArray)), (4, iv 0), (7, iv (so.n : Int)), (8, iv (i : Int))] a_ ∧ Sat w0 w_ (Rs)) _ ⟨0, rfl, Nat.zero_le _, (fun j z hj => by omega), ha.keeps [0, 1, 4, 7, 8] _ rfl, hS⟩ ?_
 rintro n_ a w ⟨i, rfl, hi, hno, ha, hS⟩
 refine wp_seq (jX [0] (jQ [(0, 9, .bool (decide ((i : Int) < (so.n : Int))))] ha fun a ha => ?_))
 refine jZ (jJ (wp_seq ?_))
 by_cases c1 : (i : Int) < (so.n : Int)
 ·
  have hil : i < l.length := by omega
  obtain ⟨x9, hx9⟩ : ∃ x, l[i]? = some x := ⟨_, List.getElem?_eq_getElem hil⟩
  refine jU ha rfl (decide_eq_true c1) ?_
  refine wp_skip (jJ (wp_seq (wp_block (wp_seq (jX [0, 1] (jQ [(0, 10, iv (i : Int)), (1, 5, iv (i : Int))] ha fun a ha => ?_))))))
  refine jZ (jJ (wp_seq (jX [0, 1, 2, 3, 4, 5] (jQ [(0, 11, (.func (.func F) #[] cap.toArray)), (1, 12, .slice so.A so.n so.c), (2, 13, iv (i : Int))] ha fun a ha => ?_))))
  refine xQ (.pointer (some ⟨bk so, of_ so + i * 1, none⟩)) ha (xU (el := 3) (sz := 1) (j := i) ha (yJ (t := 44) (x := 12) (y := 13) (d := 14)) rfl rfl (by kernel_rfl) (by kernel_rfl) ((hS.rdRow (s := so) k9 hk9).at_ ((List.getElem?_eq_some_iff.1 hx9).1)).1 (by rw [((hS.rdRow (s := so) k9 hk9)).len]; exact (List.getElem?_eq_some_iff.1 hx9).1)) fun a ha => ?_
  refine xQ (iv x9) ha (xZ (p := ⟨bk so, of_ so + i * 1, none⟩) ha (xH (t := 3) (x := 14) (d := 15) (ty := 3)) rfl (by kernel_rfl) (fun w' hw => by rw [hw, Nat.mul_one, ← getD_at hx9]; exact ((hS.rdRow (s := so) k9 hk9).at_ ((List.getElem?_eq_some_iff.1 hx9).1)).2)) fun a ha => ?_
  refine jH (o_retF (t := 11) (f := F) (cap := cap) ha (by decide) (xG (op := (Op.call { callee := (Callee.value (Operand.tmp 11)), args := #[(Operand.tmp 15)], argTypes := #[3] })) (d := some 16) (ty := 4)) rfl rfl hfn hbn (hcl _ x9 hS) fun v2 w a hp3 ha => ?_)
  obtain ⟨rfl, hS⟩ := hp3
  refine jZ (jJ ?_)
  rcases Bool.eq_false_or_eq_true (p x9) with c4 | c4
  ·
   refine jU ha rfl c4 ?_;refine wp_seq (jX [0, 1] (jQ [(0, 17, iv (i : Int)), (1, 4, iv (i : Int))] ha fun a ha => ?_));refine jZ (jJ (wp_ret (in_r (qJ (qJ (in_r (qJ (jW ha (by kernel_rfl) (jG (t := 4) ha rfl) ?_))))))));exact ⟨_, rfl, by rw [show l.any p = true from anyS_yes hx9 c4]; exact decide_eq_true (by omega), hS⟩
  refine jK ha rfl c4 ?_
  refine wp_skip (in_n (jJ (jX [0, 1] (xW 18 ((i : Int) + 1) ha fun a ha => ?_))))
  refine jQ [(1, 8, iv ((i : Int) + 1))] ha fun a ha => ?_
  refine jZ (jJ ?_)
  exact ⟨_, by omega, i + 1, rfl, by omega, anyS_next hx9 hno c4, ha.keeps [0, 1, 4, 7, 8] _ rfl, hS⟩
 refine jK ha rfl (decide_eq_false c1) ?_
 refine wp_exit (qH (qH (in_x (jJ (wp_seq (jX [0] (jQ [(0, 4, iv (-1))] ha fun a ha => ?_)))))))
 refine jZ (jJ (wp_ret (jW ha (by kernel_rfl) (jG (t := 4) ha rfl) ?_)))
 exact ⟨_, rfl, by rw [show l.any p = false from anyS_no (fun j z hj => hno j z (by omega))]; decide, hS⟩
theorem code121X : Try.f121.body = some (Code.seq (cr Try.f121 0 false) (Code.seq (cr Try.f121 1 false) Code.ret)) := by kernel_rfl
theorem conF_sat {w0 w : World} {Rs : List Asn} {so : Sl} {l : List Int} {T9 : TypeId} {k9 F : Nat} {fn : Func} {cap : List Value} {p : Int → Bool} (hS : Sat w0 w Rs) (hk9 : Rs[k9]? = some (SX.row so.v T9 1 (SX.encI l))) (hfn : Try.prog.funcs[F]? = some fn) (hbn : (fn.body.isNone || fn.name == "runtime.NumGoroutine") = false)
  (hcl : ∀ (w1 : World) (x : Int), Sat w0 w1 Rs → Calls Try.prog F (.int .i64 x :: cap).toArray w1 (Ret fun r w' => r = .bool (p x) ∧ Sat w0 w' Rs)) :
  Calls Try.prog 121 #[.slice so.A so.n so.c, .func (.func F) #[] cap.toArray] w (Ret fun r w' => r = .bool (l.any p) ∧ Sat w0 w' Rs) := by
 refine enter (n := 9) Try.func121 code121X (by kernel_rfl) (Nat.le_of_ble_eq_true rfl) (fun a ha => ?_)
 replace ha : Has 9 [(0, .slice so.A so.n so.c), (1, (.func (.func F) #[] cap.toArray))] a := ha
 refine wp_seq (jX [0] (jQ [(0, 4, .bool false)] ha fun a ha => ?_))
 refine jZ (jJ (wp_seq (jX [0, 1, 2, 3, 4] (jQ [(0, 5, .slice so.A so.n so.c), (1, 6, (.func (.func F) #[] cap.toArray))] ha fun a ha => ?_))))
 refine jH (qY 7 (vs := [.slice so.A so.n so.c, (.func (.func F) #[] cap.toArray)]) ha (idxF_sat (F := F) (cap := cap) (p := p) hS hk9 hfn hbn hcl) fun v1 w a hp2 ha => ?_)
 obtain ⟨kx, rfl, hkx, hS⟩ := hp2
 refine jQ [(3, 8, .bool (decide (kx ≥ 0))), (4, 4, .bool (decide (kx ≥ 0)))] ha fun a ha => ?_
 refine jZ (jJ (wp_ret (jW ha (by kernel_rfl) (jG (t := 4) ha rfl) ?_)))
 exact ⟨congrArg Value.bool (show (decide (kx ≥ 0)) = l.any p from hkx), hS⟩
theorem code124X : Try.f124.body = some (Code.seq (cr Try.f124 0 false) (Code.seq (Code.seq (cr Try.f124 1 false) (Code.block 0 (Code.loop (Code.seq (cr Try.f124 2 false) (Code.seq (Code.cond (Operand.tmp 9) Code.skip (Code.exit 0)) (Code.seq (Code.block 1 (Code.seq (cr Try.f124 3 false) (Code.seq (cr Try.f124 4 false) (Code.cond (Operand.tmp 16) (Code.seq (cr Try.f124 5 false) Code.ret) Code.skip)))) (cr Try.f124 6 false))))))) (Code.seq (cr Try.f124 7 false) Code.ret))) := by kernel_rfl
theorem idxS_sat {w0 w : World} {Rs : List Asn} {sb : Sl} {l : List ST} {F : Nat} {fn : Func} {cap : List Value} {p : ST → Bool} (hS : Sat w0 w Rs) (hrb : RdE cT 3 w0 sb l) (hbig : l.length ≤ 1048576) (hfn : Try.prog.funcs[F]? = some fn) (hbn : (fn.body.isNone || fn.name == "runtime.NumGoroutine") = false)
  (hcl : ∀ (w1 : World) (x : ST), Sat w0 w1 Rs → Calls Try.prog F (.agg #[.int .i64 x.f0, .int .i64 x.f1, .int .i64 x.f2] :: cap).toArray w1 (Ret fun r w' => r = .bool (p x) ∧ Sat w0 w' Rs)) :
  Calls Try.prog 124 #[.slice sb.A sb.n sb.c, .func (.func F) #[] cap.toArray] w (Ret fun r w' => ∃ kx : Int, r = .int .i64 kx ∧ decide (kx ≥ 0) = l.any p ∧ Sat w0 w' Rs) := by
 have hsl := hrb.len
 refine enter (n := 19) Try.func124 code124X (by kernel_rfl) (Nat.le_of_ble_eq_true rfl) (fun a ha => ?_)
 replace ha : Has 19 [(0, .slice sb.A sb.n sb.c), (1, (.func (.func F) #[] cap.toArray))] a := ha
 refine wp_seq (jX [0] (jQ [(0, 4, iv 0)] ha fun a ha => ?_))
 refine jZ (jJ (wp_seq (wp_seq (jX [0, 1, 2] (jQ [(0, 6, .slice sb.A sb.n sb.c), (1, 7, iv (sb.n : Int)), (2, 8, iv 0)] ha fun a ha => ?_)))))
 refine jZ (jJ (wp_block ?_))
 refine wp_loop_ghost (fun n_ a_ w_ => ∃ (i : Nat), n_ = l.length - i ∧ (i ≤ l.length) ∧ (∀ (j : Nat) z, j < i → l[j]? = some z → p z = false) ∧ Has 19 [(0, .slice sb.A sb.n sb.c), (1, (.func (.func F) #[] cap.toArray)), (4, iv 0), (7, iv (sb.n : Int)), (8, iv (i : Int))] a_ ∧ Sat w0 w_ (Rs)) _ ⟨0, rfl, Nat.zero_le _, (fun j z hj => by omega), ha.keeps [0, 1, 4, 7, 8] _ rfl, hS⟩ ?_
 rintro n_ a w ⟨i, rfl, hi, hno, ha, hS⟩
 refine wp_seq (jX [0] (jQ [(0, 9, .bool (decide ((i : Int) < (sb.n : Int))))] ha fun a ha => ?_))
 refine jZ (jJ (wp_seq ?_))
 by_cases c1 : (i : Int) < (sb.n : Int)
 ·
  have hil : i < l.length := by omega
  obtain ⟨x9, hx9⟩ : ∃ x, l[i]? = some x := ⟨_, List.getElem?_eq_getElem hil⟩
  refine jU ha rfl (decide_eq_true c1) ?_
  refine wp_skip (jJ (wp_seq (wp_block (wp_seq (jX [0, 1] (jQ [(0, 10, iv (i : Int)), (1, 5, iv (i : Int))] ha fun a ha => ?_))))))
  refine jZ (jJ (wp_seq (jX [0, 1, 2, 3, 4, 5] (jQ [(0, 11, (.func (.func F) #[] cap.toArray)), (1, 12, .slice sb.A sb.n sb.c), (2, 13, iv (i : Int))] ha fun a ha => ?_))))
  refine xQ (.pointer (some ⟨bk sb, of_ sb + i * 3, none⟩)) ha (xY (el := 72) (sz := 3) (j := i) ha (yJ (t := 70) (x := 12) (y := 13) (d := 14)) rfl rfl (by kernel_rfl) (by kernel_rfl) (RdE.at_ (hrb.sat hS) _ _ hx9).1 (rfl) (by rw [((hrb.sat hS)).len]; exact (List.getElem?_eq_some_iff.1 hx9).1)) fun a ha => ?_
  refine xQ (.agg #[iv x9.f0, iv x9.f1, iv x9.f2]) ha (v_loadE (b := bk sb) (f := of_ sb + i * 3) (vs := [iv x9.f0, iv x9.f1, iv x9.f2]) ha (xH (t := 72) (x := 14) (d := 15) (ty := 72)) rfl (by kernel_rfl) (fun w' hw o u hu => by rw [hw]; exact (RdE.at_ (hrb.sat hS) _ _ hx9).2 o u hu)) fun a ha => ?_
  refine jH (o_retF (t := 11) (f := F) (cap := cap) ha (by decide) (xG (op := (Op.call { callee := (Callee.value (Operand.tmp 11)), args := #[(Operand.tmp 15)], argTypes := #[72] })) (d := some 16) (ty := 4)) rfl rfl hfn hbn (hcl _ x9 hS) fun v2 w a hp3 ha => ?_)
  obtain ⟨rfl, hS⟩ := hp3
  refine jZ (jJ ?_)
  rcases Bool.eq_false_or_eq_true (p x9) with c4 | c4
  ·
   refine jU ha rfl c4 ?_;refine wp_seq (jX [0, 1] (jQ [(0, 17, iv (i : Int)), (1, 4, iv (i : Int))] ha fun a ha => ?_));refine jZ (jJ (wp_ret (in_r (qJ (qJ (in_r (qJ (jW ha (by kernel_rfl) (jG (t := 4) ha rfl) ?_))))))));exact ⟨_, rfl, by rw [show l.any p = true from anyS_yes hx9 c4]; exact decide_eq_true (by omega), hS⟩
  refine jK ha rfl c4 ?_
  refine wp_skip (in_n (jJ (jX [0, 1] (xW 18 ((i : Int) + 1) ha fun a ha => ?_))))
  refine jQ [(1, 8, iv ((i : Int) + 1))] ha fun a ha => ?_
  refine jZ (jJ ?_)
  exact ⟨_, by omega, i + 1, rfl, by omega, anyS_next hx9 hno c4, ha.keeps [0, 1, 4, 7, 8] _ rfl, hS⟩
 refine jK ha rfl (decide_eq_false c1) ?_
 refine wp_exit (qH (qH (in_x (jJ (wp_seq (jX [0] (jQ [(0, 4, iv (-1))] ha fun a ha => ?_)))))))
 refine jZ (jJ (wp_ret (jW ha (by kernel_rfl) (jG (t := 4) ha rfl) ?_)))
 exact ⟨_, rfl, by rw [show l.any p = false from anyS_no (fun j z hj => hno j z (by omega))]; decide, hS⟩
theorem code63X : Try.f63.body = some (Code.seq (cr Try.f63 0 false) (Code.seq (cr Try.f63 1 false) Code.ret)) := by kernel_rfl
theorem conS_sat {w0 w : World} {Rs : List Asn} {sb : Sl} {l : List ST} {F : Nat} {fn : Func} {cap : List Value} {p : ST → Bool} (hS : Sat w0 w Rs) (hrb : RdE cT 3 w0 sb l) (hbig : l.length ≤ 1048576) (hfn : Try.prog.funcs[F]? = some fn) (hbn : (fn.body.isNone || fn.name == "runtime.NumGoroutine") = false)
  (hcl : ∀ (w1 : World) (x : ST), Sat w0 w1 Rs → Calls Try.prog F (.agg #[.int .i64 x.f0, .int .i64 x.f1, .int .i64 x.f2] :: cap).toArray w1 (Ret fun r w' => r = .bool (p x) ∧ Sat w0 w' Rs)) :
  Calls Try.prog 63 #[.slice sb.A sb.n sb.c, .func (.func F) #[] cap.toArray] w (Ret fun r w' => r = .bool (l.any p) ∧ Sat w0 w' Rs) := by
 refine enter (n := 9) Try.func63 code63X (by kernel_rfl) (Nat.le_of_ble_eq_true rfl) (fun a ha => ?_)
 replace ha : Has 9 [(0, .slice sb.A sb.n sb.c), (1, (.func (.func F) #[] cap.toArray))] a := ha
 refine wp_seq (jX [0] (jQ [(0, 4, .bool false)] ha fun a ha => ?_))
 refine jZ (jJ (wp_seq (jX [0, 1, 2, 3, 4] (jQ [(0, 5, .slice sb.A sb.n sb.c), (1, 6, (.func (.func F) #[] cap.toArray))] ha fun a ha => ?_))))
 refine jH (qY 7 (vs := [.slice sb.A sb.n sb.c, (.func (.func F) #[] cap.toArray)]) ha (idxS_sat (F := F) (cap := cap) (p := p) hS hrb hbig hfn hbn hcl) fun v1 w a hp2 ha => ?_)
 obtain ⟨kx, rfl, hkx, hS⟩ := hp2
 refine jQ [(3, 8, .bool (decide (kx ≥ 0))), (4, 4, .bool (decide (kx ≥ 0)))] ha fun a ha => ?_
 refine jZ (jJ (wp_ret (jW ha (by kernel_rfl) (jG (t := 4) ha rfl) ?_)))
 exact ⟨congrArg Value.bool (show (decide (kx ≥ 0)) = l.any p from hkx), hS⟩
theorem code123 : Try.f123.body = some (Code.seq (cr Try.f123 0 false) (Code.seq (cr Try.f123 1 false) Code.ret)) := by kernel_rfl
theorem distC_sat {w0 w : World} {Rs : List Asn} {y : ST} {b1 : Nat} {r9 : Int} (hS : Sat w0 w ((SX.blk b1 [iv y.f0, iv y.f1, iv y.f2] 72) :: Rs)) :
  Calls Try.prog 123 #[.int .i64 r9, .pointer (some ⟨b1, 0, none⟩)] w (Ret fun r w' => r = .bool ((readsP y).contains r9 || (writesP y).contains r9) ∧ Sat w0 w' ((SX.blk b1 [iv y.f0, iv y.f1, iv y.f2] 72) :: Rs)) := by
 refine enter (n := 14) Try.func123 code123 (by kernel_rfl) (Nat.le_of_ble_eq_true rfl) (fun a ha => ?_)
 replace ha : Has 14 [(0, iv r9), (1, ptr b1 0)] a := ha
 refine wp_seq (jX [0] (jQ [(0, 3, .bool false)] ha fun a ha => ?_))
 refine jZ (jJ (wp_seq (jX [0, 1, 2, 3, 4, 5, 6, 7, 8, 9, 10] (xX 4 ha (hS.blk 0 rfl) fun a ha => ?_))))
 refine jH (qY 5 (vs := [.agg #[iv y.f0, iv y.f1, iv y.f2]]) ha (readsI_sat (x := y) hS) fun v1 w a hp2 ha => ?_)
 obtain ⟨ro1, rfl, hS⟩ := hp2
 refine jQ [(2, 6, iv r9)] ha fun a ha => ?_
 refine jH (qY 7 (vs := [.slice ro1.A ro1.n ro1.c, iv r9]) ha (ocont_sat (s := ro1) hS (hS.rdRow (s := ro1) (l := (readsP y)) 0 rfl) r9) fun v3 w a hp4 ha => ?_)
 obtain ⟨rfl, hS⟩ := hp4
 refine jQ [(4, 8, .bool ((readsP y).contains r9))] ha fun a ha => ?_
 rcases Bool.eq_false_or_eq_true ((readsP y).contains r9) with c5 | c5
 ·
  replace ha := ha.turn 7 (.bool true) rfl (congrArg Value.bool c5)
  replace ha := ha.turn 8 (.bool true) rfl (congrArg Value.bool c5)
  refine jQ [(5, 9, undef), (6, 10, undef), (7, 11, undef), (8, 12, undef), (9, 13, .bool true), (10, 3, .bool true)] ha fun a ha => ?_
  refine jZ (jJ (wp_ret (jW ha (by kernel_rfl) (jG (t := 3) ha rfl) ?_)))
  have hE : ((readsP y).contains r9 || (writesP y).contains r9) = true := by simp only [c5, Bool.true_or, Bool.or_true, Bool.false_or, Bool.or_self]
  exact ⟨by rw [hE], hS.pickN 2 [1]⟩
 replace ha := ha.turn 7 (.bool false) rfl (congrArg Value.bool c5)
 replace ha := ha.turn 8 (.bool false) rfl (congrArg Value.bool c5)
 refine xX 9 ha (hS.blk 1 rfl) fun a ha => ?_
 refine jH (qY 10 (vs := [.agg #[iv y.f0, iv y.f1, iv y.f2]]) ha (writesI_sat (x := y) hS) fun v6 w a hp7 ha => ?_)
 obtain ⟨ro2, rfl, hS⟩ := hp7
 refine jQ [(7, 11, iv r9)] ha fun a ha => ?_
 refine jH (qY 12 (vs := [.slice ro2.A ro2.n ro2.c, iv r9]) ha (ocont_sat (s := ro2) hS (hS.rdRow (s := ro2) (l := (writesP y)) 0 rfl) r9) fun v8 w a hp9 ha => ?_)
 obtain ⟨rfl, hS⟩ := hp9
 refine jQ [(9, 13, .bool ((writesP y).contains r9)), (10, 3, .bool ((writesP y).contains r9))] ha fun a ha => ?_
 refine jZ (jJ (wp_ret (jW ha (by kernel_rfl) (jG (t := 3) ha rfl) ?_)))
 have hE : ((readsP y).contains r9 || (writesP y).contains r9) = ((writesP y).contains r9) := by simp only [c5, Bool.true_or, Bool.or_true, Bool.false_or, Bool.or_self]
 exact ⟨by rw [hE], hS.pickN 3 [2]⟩
theorem code62 : Try.f62.body = some (Code.seq (cr Try.f62 0 false) (Code.seq (cr Try.f62 1 false) Code.ret)) := by kernel_rfl
theorem distI_sat {w0 w : World} {Rs : List Asn} {x y : ST} (hS : Sat w0 w Rs) :
  Calls Try.prog 62 #[.agg #[iv x.f0, iv x.f1, iv x.f2], .agg #[iv y.f0, iv y.f1, iv y.f2]] w (Ret fun r w' => r = .bool (distB x y) ∧ Sat w0 w' Rs) := by
 refine enter (n := 9) Try.func62 code62 (by kernel_rfl) (Nat.le_of_ble_eq_true rfl) (fun a ha => ?_)
 replace ha : Has 9 [(0, .agg #[iv x.f0, iv x.f1, iv x.f2]), (1, .agg #[iv y.f0, iv y.f1, iv y.f2])] a := ha
 refine wp_seq (jX [0, 1, 2] (jH (qX 2 [iv x.f0, iv x.f1, iv x.f2] 72 (ptr · 0) ha hS fun b1 w a hb2 hS ha => ?_)))
 refine jH (qX 3 [iv y.f0, iv y.f1, iv y.f2] 72 (ptr · 0) ha hS fun b3 w a hb4 hS ha => ?_)
 refine jQ [(2, 4, .bool false)] ha fun a ha => ?_
 refine jZ (jJ (wp_seq (jX [0, 1, 2, 3, 4] (xX 5 ha (hS.blk 1 rfl) fun a ha => ?_))))
 refine jH (qY 6 (vs := [.agg #[iv x.f0, iv x.f1, iv x.f2]]) ha (writesI_sat (x := x) hS) fun v5 w a hp6 ha => ?_)
 obtain ⟨ro1, rfl, hS⟩ := hp6
 refine jQ [(2, 7, .func (.func 123) #[] #[ptr b3 0])] ha fun a ha => ?_
 replace hS := hS.pickN 3 [1, 0, 2]
 refine jH (qY 8 (vs := [.slice ro1.A ro1.n ro1.c, .func (.func 123) #[] #[ptr b3 0]]) ha (conF_sat (F := 123) (cap := [ptr b3 0]) (p := fun r9 => (readsP y).contains r9 || (writesP y).contains r9) (k9 := 1) hS rfl Try.func123 (by kernel_rfl) (fun w1 x h1 => distC_sat (y := y) h1)) fun v7 w a hp8 ha => ?_)
 obtain ⟨rfl, hS⟩ := hp8
 refine jQ [(4, 4, .bool ((writesP x).any (fun r9 => (readsP y).contains r9 || (writesP y).contains r9)))] ha fun a ha => ?_
 refine jZ (jJ (wp_ret (jW ha (by kernel_rfl) (jG (t := 4) ha rfl) ?_)))
 exact ⟨rfl, Sat.rest [_, _, _] hS⟩
theorem code117 : Try.f117.body = some (Code.seq (cr Try.f117 0 false) (Code.seq (Code.seq (cr Try.f117 1 false) (Code.block 0 (Code.loop (Code.seq (Code.seq (cr Try.f117 2 false) (Code.cond (Operand.tmp 9) Code.skip (Code.exit 0))) (Code.seq (Code.block 1 (Code.seq (cr Try.f117 4 false) (Code.cond (Operand.tmp 17) (Code.seq (cr Try.f117 5 false) Code.ret) Code.skip))) (cr Try.f117 3 false)))))) (Code.seq (cr Try.f117 6 false) Code.ret))) := by kernel_rfl
theorem meet_sat {w0 w : World} {Rs : List Asn} {s1 s2 : Sl} {l1 l2 : List Int} (hS : Sat w0 w (SX.row (.slice s1.A s1.n s1.c) 3 1 (SX.encI l1) :: SX.row (.slice s2.A s2.n s2.c) 3 1 (SX.encI l2) :: Rs)) (h8 : l1.length ≤ 100) :
  Calls Try.prog 117 #[.slice s1.A s1.n s1.c, .slice s2.A s2.n s2.c] w (Ret fun r w' => r = .bool (meetB l1 l2) ∧ Sat w0 w' Rs) := by
 refine enter (n := 18) Try.func117 code117 (by kernel_rfl) (Nat.le_of_ble_eq_true rfl) (fun a ha => ?_)
 replace ha : Has 18 [(0, .slice s1.A s1.n s1.c), (1, .slice s2.A s2.n s2.c)] a := ha
 refine wp_seq (jX [0] (jQ [(0, 4, .bool false)] ha fun a ha => ?_))
 refine jZ (jJ (wp_seq (wp_seq (jX [0] (jQ [(0, 5, iv 0)] ha fun a ha => ?_)))))
 refine jZ (jJ (wp_block ?_))
 replace hS : Sat w0 w ((rI s1 l1) :: (rI s2 l2) :: Rs) := hS
 replace hS : Sat w0 w ((SX.row (.slice s1.A s1.n s1.c) 3 1 (encJ l1)) :: (rI s2 l2) :: Rs) := by rw [← encJ_I]; exact hS
 have h1n : s1.n = l1.length := hS.rowL (s := s1) (enc := cellsJ) 0 cellsJ_len (by decide) rfl
 refine wp_loop_ghost (fun n_ a_ w_ => ∃ (i : Nat), n_ = l1.length - i ∧ (i ≤ l1.length) ∧ (∀ (j : Nat) z, j < i → l1[j]? = some z → l2.contains z = false) ∧ Has 18 [(0, .slice s1.A s1.n s1.c), (1, .slice s2.A s2.n s2.c), (4, .bool false), (5, iv (i : Int))] a_ ∧ Sat w0 w_ ((SX.row (.slice s1.A s1.n s1.c) 3 1 (encJ l1)) :: (rI s2 l2) :: Rs)) _ ⟨0, rfl, Nat.zero_le _, (fun j z hj => by omega), ha.keeps [0, 1, 4, 5] _ rfl, hS⟩ ?_
 rintro n_ a w ⟨i, rfl, hi, hno, ha, hS⟩
 refine wp_seq (wp_seq (jX [0, 1, 2, 3] (jQ [(0, 6, iv (i : Int)), (1, 7, .slice s1.A s1.n s1.c), (2, 8, iv (s1.n : Int)), (3, 9, .bool (decide ((i : Int) < (s1.n : Int))))] ha fun a ha => ?_)))
 refine jZ (jJ ?_)
 by_cases c1 : (i : Int) < (s1.n : Int)
 ·
  have hil : i < l1.length := by omega
  obtain ⟨x9, hx9⟩ : ∃ x, l1[i]? = some x := ⟨_, List.getElem?_eq_getElem hil⟩
  refine jU ha rfl (decide_eq_true c1) ?_
  refine wp_skip (jJ (wp_seq (wp_block (wp_seq (jX [0, 1, 2, 3, 4, 5] (jQ [(0, 12, .slice s2.A s2.n s2.c), (1, 13, .slice s1.A s1.n s1.c), (2, 14, iv (i : Int))] ha fun a ha => ?_))))))
  refine xQ (.pointer (some ⟨bk s1, i * 1, none⟩)) ha (yG (s := s1) (el := 3) (sz := 1) (j := i) ha (yJ (t := 44) (x := 13) (y := 14) (d := 15)) rfl rfl (by kernel_rfl) (by kernel_rfl) (hS.rowA (s := s1) 0 rfl (by have := (List.getElem?_eq_some_iff.1 hx9).1; rw [encJ_length]; omega)) (rfl) (by have h9 := hS.rowL (s := s1) (enc := cellsJ) 0 cellsJ_len (by decide) rfl; have := (List.getElem?_eq_some_iff.1 hx9).1; omega)) fun a ha => ?_
  refine xQ (iv x9) ha (xZ ha (xH (t := 3) (x := 15) (d := 16) (ty := 3)) rfl (by kernel_rfl) (fun w' hw => by rw [hw]; exact (hS.rdC (s := s1) 0 rfl).cells _ _ ((flat_get (enc := cellsJ) (o := 0) cellsJ_len hx9 (by decide)).trans rfl))) fun a ha => ?_
  refine jH (qY 17 (vs := [.slice s2.A s2.n s2.c, iv x9]) ha (bhas_sat hS (hS.rdRow (s := s2) 1 rfl)) fun v2 w a hp3 ha => ?_)
  obtain ⟨rfl, hS⟩ := hp3
  refine jZ (jJ ?_)
  rcases Bool.eq_false_or_eq_true (l2.contains x9) with c4 | c4
  ·
   refine jU ha rfl c4 ?_;refine wp_seq (jX [0] (jQ [(0, 4, .bool true)] ha fun a ha => ?_));refine jZ (jJ (wp_ret (in_r (qJ (qJ (in_r (qJ (jW ha (by kernel_rfl) (jG (t := 4) ha rfl) ?_))))))));have hE : meetB l1 l2 = true := anyS_yes hx9 c4;rw [hE];exact ⟨rfl, Sat.rest [_, _] hS⟩
  refine jK ha rfl c4 ?_
  refine wp_skip (in_n (jJ (jX [0, 1, 2] (jQ [(0, 10, iv (i : Int))] ha fun a ha => ?_))))
  refine xW 11 ((i : Int) + 1) ha fun a ha => ?_
  refine jQ [(2, 5, iv ((i : Int) + 1))] ha fun a ha => ?_
  refine jZ (jJ ?_)
  replace hS : Sat w0 w ((SX.row (.slice s1.A s1.n s1.c) 3 1 (encJ l1)) :: (rI s2 l2) :: Rs) := hS
  exact ⟨_, by omega, i + 1, rfl, by omega, anyS_next hx9 hno c4, ha.keeps [0, 1, 4, 5] _ rfl, hS⟩
 refine jK ha rfl (decide_eq_false c1) ?_
 refine wp_exit (qH (qH (in_x (jJ (wp_seq (jX [0] (jQ [(0, 4, .bool false)] ha fun a ha => ?_)))))))
 refine jZ (jJ (wp_ret (jW ha (by kernel_rfl) (jG (t := 4) ha rfl) ?_)))
 have hE : meetB l1 l2 = false := anyS_no (fun j z hj => hno j z (by omega))
 rw [hE]
 exact ⟨rfl, Sat.rest [_, _] hS⟩
theorem code57 : Try.f57.body = some (Code.seq (cr Try.f57 0 false) (Code.seq (cr Try.f57 1 true) Code.ret)) := by kernel_rfl
theorem freeQ_sat {w0 w : World} {Rs : List Asn} {x y : ST} (hS : Sat w0 w Rs) :
  Calls Try.prog 57 #[.agg #[iv x.f0, iv x.f1, iv x.f2], .agg #[iv y.f0, iv y.f1, iv y.f2]] w (Ret fun r w' => r = .bool (freeB x y) ∧ Sat w0 w' Rs) := by
 refine enter (n := 27) Try.func57 code57 (by kernel_rfl) (Nat.le_of_ble_eq_true rfl) (fun a ha => ?_)
 replace ha : Has 27 [(0, .agg #[iv x.f0, iv x.f1, iv x.f2]), (1, .agg #[iv y.f0, iv y.f1, iv y.f2])] a := ha
 refine wp_seq (jX [0, 1, 2] (jH (qX 2 [iv x.f0, iv x.f1, iv x.f2] 72 (ptr · 0) ha hS fun b1 w a hb2 hS ha => ?_)))
 refine jH (qX 3 [iv y.f0, iv y.f1, iv y.f2] 72 (ptr · 0) ha hS fun b3 w a hb4 hS ha => ?_)
 refine jQ [(2, 4, .bool false)] ha fun a ha => ?_
 refine jZ (jJ (wp_seq (xK 23 23 (hS.pickN 2 [0, 1]) hS fun w hS => ?_)))
 refine yW 0 5 ha (hS.pickN 2 [0, 1]) (fun _ hw => hw.blk 1 rfl) fun a ha => ?_
 refine yW 2 7 ha (hS.pickN 2 [0, 1]) (fun _ hw => hw.blk 0 rfl) fun a ha => ?_
 refine qU 1 (qY 6 (vs := [.agg #[iv x.f0, iv x.f1, iv x.f2]]) ha (writesQ_sat (x := x) hS) fun v5 w a hp6 ha => ?_)
 obtain ⟨ro1, rfl, hS⟩ := hp6
 refine ⟨.inr (hS.pickN 3 [1, 2]), ?_⟩
 refine qU 3 (qY 8 (vs := [.agg #[iv y.f0, iv y.f1, iv y.f2]]) ha (readsQ_sat (x := y) hS) fun v7 w a hp8 ha => ?_)
 obtain ⟨ro2, rfl, hS⟩ := hp8
 refine ⟨.inr (hS.pickN 4 [2, 3]), ?_⟩
 replace hS := hS.pickN 4 [1, 0, 2, 3]
 refine qU 4 (qY 9 (vs := [.slice ro1.A ro1.n ro1.c, .slice ro2.A ro2.n ro2.c]) ha (meet_sat hS (Nat.le_trans (writesP_len _) (by decide))) fun v9 w a hp10 ha => ?_)
 obtain ⟨rfl, hS⟩ := hp10
 refine ⟨.inr (hS.pickN 2 [0, 1]), ?_⟩
 refine qG (k := 16) [(5, 10, .bool (!((meetB (writesP x) (readsP y))))), (6, 11, .bool (!((meetB (writesP x) (readsP y)))))] ha (.inr (hS.pickN 2 [0, 1])) fun a ha => ?_
 rcases Bool.eq_false_or_eq_true (meetB (writesP x) (readsP y)) with c11 | c11
 ·
  replace ha := ha.turn 9 (.bool true) rfl (congrArg Value.bool c11)
  replace ha := ha.turn 10 (.bool false) rfl (congrArg Value.bool (qZ c11))
  replace ha := ha.turn 11 (.bool false) rfl (congrArg Value.bool (qZ c11))
  refine qG (k := 0) [(7, 12, undef), (8, 13, undef), (9, 14, undef), (10, 15, undef), (11, 16, undef), (12, 17, undef), (13, 18, .bool false), (14, 19, .bool false), (15, 20, undef), (16, 21, undef), (17, 22, undef), (18, 23, undef), (19, 24, undef), (20, 25, undef), (21, 26, .bool false), (22, 4, .bool false)] ha (.inr (hS.pickN 2 [0, 1])) fun a ha => ?_
  refine xV ?_
  replace ha := ha.as [(4, .bool false)] rfl
  refine jJ (wp_ret (jW ha (by kernel_rfl) (jG (t := 4) ha rfl) ?_))
  have hE : freeB x y = false := by unfold freeB; simp only [c11, eq_self, decide_true, decide_false, Bool.true_and, Bool.and_true, Bool.false_and, Bool.and_false, Bool.not_true, Bool.not_false, Bool.and_self]
  rw [hE]
  exact ⟨rfl, Sat.rest [_, _] hS⟩
 replace ha := ha.turn 9 (.bool false) rfl (congrArg Value.bool c11)
 replace ha := ha.turn 10 (.bool true) rfl (congrArg Value.bool (qV c11))
 replace ha := ha.turn 11 (.bool true) rfl (congrArg Value.bool (qV c11))
 refine yW 7 12 ha (hS.pickN 2 [0, 1]) (fun _ hw => hw.blk 1 rfl) fun a ha => ?_
 refine yW 9 14 ha (hS.pickN 2 [0, 1]) (fun _ hw => hw.blk 0 rfl) fun a ha => ?_
 refine qU 8 (qY 13 (vs := [.agg #[iv x.f0, iv x.f1, iv x.f2]]) ha (writesQ_sat (x := x) hS) fun v12 w a hp13 ha => ?_)
 obtain ⟨ro3, rfl, hS⟩ := hp13
 refine ⟨.inr (hS.pickN 3 [1, 2]), ?_⟩
 refine qU 10 (qY 15 (vs := [.agg #[iv y.f0, iv y.f1, iv y.f2]]) ha (writesQ_sat (x := y) hS) fun v14 w a hp15 ha => ?_)
 obtain ⟨ro4, rfl, hS⟩ := hp15
 refine ⟨.inr (hS.pickN 4 [2, 3]), ?_⟩
 replace hS := hS.pickN 4 [1, 0, 2, 3]
 refine qU 11 (qY 16 (vs := [.slice ro3.A ro3.n ro3.c, .slice ro4.A ro4.n ro4.c]) ha (meet_sat hS (Nat.le_trans (writesP_len _) (by decide))) fun v16 w a hp17 ha => ?_)
 obtain ⟨rfl, hS⟩ := hp17
 refine ⟨.inr (hS.pickN 2 [0, 1]), ?_⟩
 refine qG (k := 8) [(12, 17, .bool (!((meetB (writesP x) (writesP y))))), (13, 18, .bool (!((meetB (writesP x) (writesP y))))), (14, 19, .bool (!((meetB (writesP x) (writesP y)))))] ha (.inr (hS.pickN 2 [0, 1])) fun a ha => ?_
 rcases Bool.eq_false_or_eq_true (meetB (writesP x) (writesP y)) with c18 | c18
 ·
  replace ha := ha.turn 16 (.bool true) rfl (congrArg Value.bool c18)
  replace ha := ha.turn 17 (.bool false) rfl (congrArg Value.bool (qZ c18))
  replace ha := ha.turn 18 (.bool false) rfl (congrArg Value.bool (qZ c18))
  replace ha := ha.turn 19 (.bool false) rfl (congrArg Value.bool (qZ c18))
  refine qG (k := 0) [(15, 20, undef), (16, 21, undef), (17, 22, undef), (18, 23, undef), (19, 24, undef), (20, 25, undef), (21, 26, .bool false), (22, 4, .bool false)] ha (.inr (hS.pickN 2 [0, 1])) fun a ha => ?_
  refine xV ?_
  replace ha := ha.as [(4, .bool false)] rfl
  refine jJ (wp_ret (jW ha (by kernel_rfl) (jG (t := 4) ha rfl) ?_))
  have hE : freeB x y = false := by unfold freeB; simp only [c11, c18, eq_self, decide_true, decide_false, Bool.true_and, Bool.and_true, Bool.false_and, Bool.and_false, Bool.not_true, Bool.not_false, Bool.and_self]
  rw [hE]
  exact ⟨rfl, Sat.rest [_, _] hS⟩
 replace ha := ha.turn 16 (.bool false) rfl (congrArg Value.bool c18)
 replace ha := ha.turn 17 (.bool true) rfl (congrArg Value.bool (qV c18))
 replace ha := ha.turn 18 (.bool true) rfl (congrArg Value.bool (qV c18))
 replace ha := ha.turn 19 (.bool true) rfl (congrArg Value.bool (qV c18))
 refine yW 15 20 ha (hS.pickN 2 [0, 1]) (fun _ hw => hw.blk 0 rfl) fun a ha => ?_
 refine yW 17 22 ha (hS.pickN 2 [0, 1]) (fun _ hw => hw.blk 1 rfl) fun a ha => ?_
 refine qU 16 (qY 21 (vs := [.agg #[iv y.f0, iv y.f1, iv y.f2]]) ha (writesQ_sat (x := y) hS) fun v19 w a hp20 ha => ?_)
 obtain ⟨ro5, rfl, hS⟩ := hp20
 refine ⟨.inr (hS.pickN 3 [1, 2]), ?_⟩
 refine qU 18 (qY 23 (vs := [.agg #[iv x.f0, iv x.f1, iv x.f2]]) ha (readsQ_sat (x := x) hS) fun v21 w a hp22 ha => ?_)
 obtain ⟨ro6, rfl, hS⟩ := hp22
 refine ⟨.inr (hS.pickN 4 [2, 3]), ?_⟩
 replace hS := hS.pickN 4 [1, 0, 2, 3]
 refine qU 19 (qY 24 (vs := [.slice ro5.A ro5.n ro5.c, .slice ro6.A ro6.n ro6.c]) ha (meet_sat hS (Nat.le_trans (writesP_len _) (by decide))) fun v23 w a hp24 ha => ?_)
 obtain ⟨rfl, hS⟩ := hp24
 refine ⟨.inr (hS.pickN 2 [0, 1]), ?_⟩
 refine qG (k := 0) [(20, 25, .bool (!((meetB (writesP y) (readsP x))))), (21, 26, .bool (!((meetB (writesP y) (readsP x))))), (22, 4, .bool (!((meetB (writesP y) (readsP x)))))] ha (.inr (hS.pickN 2 [0, 1])) fun a ha => ?_
 refine xV ?_
 replace ha := ha.as [(4, .bool (!((meetB (writesP y) (readsP x)))))] rfl
 refine jJ (wp_ret (jW ha (by kernel_rfl) (jG (t := 4) ha rfl) ?_))
 have hE : freeB x y = !((meetB (writesP y) (readsP x))) := by unfold freeB; simp only [c11, c18, eq_self, decide_true, decide_false, Bool.true_and, Bool.and_true, Bool.false_and, Bool.and_false, Bool.not_true, Bool.not_false, Bool.and_self]
 rw [hE]
 exact ⟨rfl, Sat.rest [_, _] hS⟩
theorem code64 : Try.f64.body = some (Code.seq (cr Try.f64 0 false) (Code.seq (cr Try.f64 1 false) Code.ret)) := by kernel_rfl
theorem canC_sat {w0 w : World} {Rs : List Asn} {x : ST} {bq : Nat} {x2 : Int} (hS : Sat w0 w ((SX.blk bq [iv x2] 3) :: Rs)) (hx2 : 0 ≤ x2 ∧ x2 ≤ 1048576) :
  Calls Try.prog 64 #[.agg #[iv x.f0, iv x.f1, iv x.f2], .pointer (some ⟨bq, 0, none⟩)] w (Ret fun r w' => r = .bool (jmpB x2 x) ∧ Sat w0 w' ((SX.blk bq [iv x2] 3) :: Rs)) := by
 refine enter (n := 14) Try.func64 code64 (by kernel_rfl) (Nat.le_of_ble_eq_true rfl) (fun a ha => ?_)
 replace ha : Has 14 [(0, .agg #[iv x.f0, iv x.f1, iv x.f2]), (1, ptr bq 0)] a := ha
 refine wp_seq (jX [0, 1] (jH (qX 2 [iv x.f0, iv x.f1, iv x.f2] 72 (ptr · 0) ha hS fun b1 w a hb2 hS ha => ?_)))
 refine jQ [(1, 3, .bool false)] ha fun a ha => ?_
 refine jZ (jJ (wp_seq (jX [0, 1, 2, 3, 4, 5, 6, 7, 8, 9, 10] (jQ [(0, 4, ptr b1 0)] ha fun a ha => ?_))))
 refine qW (d := 5) (b := b1) (j := 0) ha (hS.blk 0 rfl) rfl fun a ha => ?_
 refine jQ [(2, 6, .bool (decide (x.f0 = 11))), (3, 7, .bool (decide (x.f0 = 11)))] ha fun a ha => ?_
 by_cases c3 : x.f0 = 11
 ·
  replace ha := ha.turn 6 (.bool true) rfl (congrArg Value.bool (decide_eq_true c3))
  replace ha := ha.turn 7 (.bool true) rfl (congrArg Value.bool (decide_eq_true c3))
  refine jQ [(4, 8, ptr b1 1)] ha fun a ha => ?_
  refine qW (d := 9) (b := b1) (j := 1) ha (hS.blk 0 rfl) rfl fun a ha => ?_
  refine qW (d := 10) (b := bq) (j := 0) ha (hS.blk 1 rfl) rfl fun a ha => ?_
  refine xW 11 (x2 + 1) ha fun a ha => ?_
  refine jQ [(8, 12, .bool (decide (x.f1 = (x2 + 1)))), (9, 13, .bool (decide (x.f1 = (x2 + 1)))), (10, 3, .bool (decide (x.f1 = (x2 + 1))))] ha fun a ha => ?_
  refine jZ (jJ (wp_ret (jW ha (by kernel_rfl) (jG (t := 3) ha rfl) ?_)))
  have hE : jmpB x2 x = decide (x.f1 = (x2 + 1)) := by unfold jmpB; simp [c3]
  exact ⟨by rw [hE], hS.pickN 2 [1]⟩
 replace ha := ha.turn 6 (.bool false) rfl (congrArg Value.bool (decide_eq_false c3))
 replace ha := ha.turn 7 (.bool false) rfl (congrArg Value.bool (decide_eq_false c3))
 refine jQ [(4, 8, undef), (5, 9, undef), (6, 10, undef), (7, 11, undef), (8, 12, undef), (9, 13, .bool false), (10, 3, .bool false)] ha fun a ha => ?_
 refine jZ (jJ (wp_ret (jW ha (by kernel_rfl) (jG (t := 3) ha rfl) ?_)))
 have hE : jmpB x2 x = false := by unfold jmpB; simp [c3]
 exact ⟨by rw [hE], hS.pickN 2 [1]⟩
theorem code18 : Try.f18.body = some (Code.seq (cr Try.f18 0 false) (Code.seq (Code.seq (cr Try.f18 1 false) (Code.cond (Operand.tmp 16) (Code.seq (cr Try.f18 2 false) Code.ret) Code.skip)) (Code.seq (cr Try.f18 3 false) (Code.seq (cr Try.f18 4 true) (Code.seq (cr Try.f18 5 false) (Code.seq (cr Try.f18 6 false) Code.ret)))))) := by kernel_rfl
theorem impl_CanExchange_sat0 {w0 : World} {s : Sl} {l : List (List ST)} {f x2 : Int} (hr : RdP w0 s l) (hf : Fits l) :
  Calls Try.prog 18 #[.agg #[.slice s.A s.n s.c], iv f, iv x2] w0 (Ret fun r w' => r = .tuple #[.bool (canP l f x2).1, .bool (canP l f x2).2] ∧ Sat w0 w' []) := by
 have hS : Sat w0 w0 [] := Sat.start w0
 refine enter (n := 72) Try.func18 code18 (by kernel_rfl) (Nat.le_of_ble_eq_true rfl) (fun a ha => ?_)
 replace ha : Has 72 [(0, .agg #[.slice s.A s.n s.c]), (1, iv f), (2, iv x2)] a := ha
 refine wp_seq (jX [0, 1, 2, 3] (jH (qX 3 [.slice s.A s.n s.c] 30 (ptr · 0) ha hS fun b1 w a hb2 hS ha => ?_)))
 refine jH (qX 5 [iv x2] 3 (ptr · 0) ha hS fun b3 w a hb4 hS ha => ?_)
 refine jQ [(2, 6, .bool false), (3, 7, .bool false)] ha fun a ha => ?_
 refine jZ (jJ (wp_seq (wp_seq (jX [0, 1, 2, 3, 4] (xX 12 ha (hS.blk 1 rfl) fun a ha => ?_)))))
 refine jQ [(1, 13, iv f)] ha fun a ha => ?_
 refine qW (d := 14) (b := b3) (j := 0) ha (hS.blk 0 rfl) rfl fun a ha => ?_
 refine jH (qY 15 (vs := [.agg #[.slice s.A s.n s.c], iv f, iv x2]) ha (hasNext_sat hS (hr.sat hS) hf) fun v5 w a hp6 ha => ?_)
 obtain ⟨rfl, hS⟩ := hp6
 refine jQ [(4, 16, .bool (!(placeB 2 l f x2)))] ha fun a ha => ?_
 refine jZ (jJ ?_)
 rcases Bool.eq_false_or_eq_true (placeB 2 l f x2) with c7 | c7
 ·
  obtain ⟨ho, b, hb, hx2⟩ := placeB_ok c7
  have hx1 := okF_lt ho
  have hb1 : b.length ≤ 1048576 := hf.each b (List.mem_of_getElem? hb)
  obtain ⟨hA0, sb, hcb, hrb⟩ := body_rd hr hb
  have hsb := hrb.len
  obtain ⟨x, hx⟩ : ∃ x, b[x2.toNat]? = some x := ⟨_, List.getElem?_eq_getElem (by omega)⟩
  obtain ⟨y, hy⟩ : ∃ y, b[x2.toNat + 1]? = some y := ⟨_, List.getElem?_eq_getElem (by omega)⟩
  refine jK ha rfl (qZ c7) ?_
  refine wp_skip (jJ (wp_seq (jX [0, 1, 2, 3, 4, 5] (jQ [(0, 17, ptr b1 0)] ha fun a ha => ?_))))
  refine qW (d := 18) (b := b1) (j := 0) ha (hS.blk 1 rfl) rfl fun a ha => ?_
  refine jQ [(2, 19, iv f)] ha fun a ha => ?_
  refine xQ (.pointer (some ⟨bk s, of_ s + f.toNat * 1, none⟩)) ha (xY (s := s) (el := 70) (sz := 1) (j := f.toNat) ha (yJ (t := 28) (x := 18) (y := 19) (d := 20)) rfl rfl (by kernel_rfl) (by kernel_rfl) hA0 (Int.toNat_of_nonneg hx1.1).symm (by rw [hr.len]; omega)) fun a ha => ?_
  refine xQ (.slice sb.A sb.n sb.c) ha (xZ ha (xH (t := 70) (x := 20) (d := 21) (ty := 70)) rfl (by kernel_rfl) (fun w' hw => by rw [hw]; rw [Nat.mul_one]; exact pw_cell_below hS.below hcb)) fun a ha => ?_
  refine jQ [(5, 8, .slice sb.A sb.n sb.c)] ha fun a ha => ?_
  refine jZ (jJ (yU (J := fun a_ w_ => ∃ (g1_0 : Nat) (g1_1 : Nat), Has 72 [(5, ptr b3 0), (6, .bool false), (7, .bool false), (8, .slice sb.A sb.n sb.c), (9, ptr g1_0 0), (10, ptr g1_1 0)] a_ ∧ Sat w0 w_ ((SX.blk g1_1 [iv y.f0, iv y.f1, iv y.f2] 72) :: (SX.blk g1_0 [iv x.f0, iv x.f1, iv x.f2] 72) :: (SX.blk b3 [iv x2] 3) :: (SX.blk b1 [.slice s.A s.n s.c] 30) :: [])) ?_ ?_))
  ·
   refine xK 12 13 (hS.pickN 2 [0, 1]) hS fun w hS => ?_;refine qG (k := 12) [(0, 22, .slice sb.A sb.n sb.c)] ha (.inr (hS.pickN 2 [0, 1])) fun a ha => ?_;refine yZ 1 (d := 23) (b := b3) (j := 0) ha (hS.pickN 2 [0, 1]) (fun _ hw => hw.blk 0 rfl) rfl fun a ha => ?_;refine yQ 2 (.pointer (some ⟨bk sb, of_ sb + x2.toNat * 3, none⟩)) ha (xY (el := 72) (sz := 3) (j := x2.toNat) ha (yJ (t := 70) (x := 22) (y := 23) (d := 24)) rfl rfl (by kernel_rfl) (by kernel_rfl) (RdE.at_ (hrb.sat hS) _ _ hx).1 ((Int.toNat_of_nonneg hx2.1).symm) (by rw [((hrb.sat hS)).len]; exact (List.getElem?_eq_some_iff.1 hx).1)) (.inr (hS.pickN 2 [0, 1])) fun a ha => ?_;refine yK 3 (.agg #[iv x.f0, iv x.f1, iv x.f2]) ha (v_loadE (b := bk sb) (f := of_ sb + x2.toNat * 3) (vs := [iv x.f0, iv x.f1, iv x.f2]) ha (xH (t := 72) (x := 24) (d := 25) (ty := 72)) rfl (by kernel_rfl) (fun w' hw o u hu => by exact (RdE.at_ (hrb.sat hw) _ _ hx).2 o u hu)) (hS.pickN 2 [0, 1]) fun a ha => ?_;refine qG (k := 8) [(4, 26, .slice sb.A sb.n sb.c)] ha (.inr (hS.pickN 2 [0, 1])) fun a ha => ?_;refine yZ 5 (d := 27) (b := b3) (j := 0) ha (hS.pickN 2 [0, 1]) (fun _ hw => hw.blk 0 rfl) rfl fun a ha => ?_;refine zY 6 28 (x2 + 1) ha (.inr (hS.pickN 2 [0, 1])) fun a ha => ?_;refine yQ 7 (.pointer (some ⟨bk sb, of_ sb + (x2.toNat + 1) * 3, none⟩)) ha (xY (el := 72) (sz := 3) (j := x2.toNat + 1) ha (yJ (t := 70) (x := 26) (y := 28) (d := 29)) rfl rfl (by kernel_rfl) (by kernel_rfl) (RdE.at_ (hrb.sat hS) _ _ hy).1 ((by omega)) (by rw [((hrb.sat hS)).len]; exact (List.getElem?_eq_some_iff.1 hy).1)) (.inr (hS.pickN 2 [0, 1])) fun a ha => ?_;refine yK 8 (.agg #[iv y.f0, iv y.f1, iv y.f2]) ha (v_loadE (b := bk sb) (f := of_ sb + (x2.toNat + 1) * 3) (vs := [iv y.f0, iv y.f1, iv y.f2]) ha (xH (t := 72) (x := 29) (d := 30) (ty := 72)) rfl (by kernel_rfl) (fun w' hw o u hu => by exact (RdE.at_ (hrb.sat hw) _ _ hy).2 o u hu)) (hS.pickN 2 [0, 1]) fun a ha => ?_;refine d_all (rs := [9, 10]) (by kernel_rfl) (by simp) (forall_mem_2 ?_ ?_)
   ·
    refine id (qX 9 [iv 0, iv 0, iv 0] 72 (ptr · 0) ha hS fun b8 w a hb9 hS ha => ?_);refine ⟨.inr (hS.pickN 3 [1, 2]), ?_⟩;refine qU 10 (qX 10 [iv 0, iv 0, iv 0] 72 (ptr · 0) ha hS fun b10 w a hb11 hS ha => ?_);refine ⟨.inr (hS.pickN 4 [2, 3]), ?_⟩;refine qU 11 (o_sa 1 ha (zJ (t := 72) (x := 9) (y := 25)) hS fun w a hS ha => ?_);refine ⟨.inr (hS.pickN 4 [2, 3]), ?_⟩;refine qU 12 (o_sa 0 ha (zJ (t := 72) (x := 10) (y := 30)) hS fun w a hS ha => ?_);refine zQ (xV ?_);replace ha := ha.as [(5, ptr b3 0), (6, .bool false), (7, .bool false), (8, .slice sb.A sb.n sb.c), (9, ptr b8 0), (10, ptr b10 0)] rfl;replace hS : Sat w0 w ((SX.blk b10 [iv y.f0, iv y.f1, iv y.f2] 72) :: (SX.blk b8 [iv x.f0, iv x.f1, iv x.f2] 72) :: (SX.blk b3 [iv x2] 3) :: (SX.blk b1 [.slice s.A s.n s.c] 30) :: []) := hS;exact jJ ⟨b8, b10, ha.keeps [5, 6, 7, 8, 9, 10] _ rfl, hS⟩
   refine id (qX 10 [iv 0, iv 0, iv 0] 72 (ptr · 0) ha hS fun b12 w a hb13 hS ha => ?_);refine ⟨.inr (hS.pickN 3 [1, 2]), ?_⟩;refine qU 9 (qX 9 [iv 0, iv 0, iv 0] 72 (ptr · 0) ha hS fun b14 w a hb15 hS ha => ?_);refine ⟨.inr (hS.pickN 4 [2, 3]), ?_⟩;refine qU 11 (o_sa 0 ha (zJ (t := 72) (x := 9) (y := 25)) hS fun w a hS ha => ?_);refine ⟨.inr (hS.pickN 4 [2, 3]), ?_⟩;refine qU 12 (o_sa 1 ha (zJ (t := 72) (x := 10) (y := 30)) hS fun w a hS ha => ?_);refine zQ (xV ?_);replace ha := ha.as [(5, ptr b3 0), (6, .bool false), (7, .bool false), (8, .slice sb.A sb.n sb.c), (10, ptr b12 0), (9, ptr b14 0)] rfl;replace hS := hS.pickN 4 [1, 0, 2, 3];exact jJ ⟨b14, b12, ha.keeps [5, 6, 7, 8, 9, 10] _ rfl, hS⟩
  rintro a w ⟨g1_0, g1_1, ha, hS⟩
  refine wp_seq (jX [0, 1, 2, 3, 4, 5, 6, 7, 8, 9, 10, 11, 12, 13, 14, 15, 16, 17, 18, 19, 20, 21, 22, 23, 24, 25, 26, 27, 28, 29, 30, 31, 32, 33, 34] (xX 31 ha (hS.blk 1 rfl) fun a ha => ?_))
  refine jH (qY 32 (vs := [.agg #[iv x.f0, iv x.f1, iv x.f2]]) ha (plainI_sat (x := x) hS) fun v16 w a hp17 ha => ?_)
  obtain ⟨rfl, hS⟩ := hp17
  refine jQ [(2, 33, .bool (plainB x))] ha fun a ha => ?_
  rcases Bool.eq_false_or_eq_true (plainB x) with c18 | c18
  ·
   replace ha := ha.turn 32 (.bool true) rfl (congrArg Value.bool c18);replace ha := ha.turn 33 (.bool true) rfl (congrArg Value.bool c18);refine xX 34 ha (hS.blk 0 rfl) fun a ha => ?_;refine jH (qY 35 (vs := [.agg #[iv y.f0, iv y.f1, iv y.f2]]) ha (plainI_sat (x := y) hS) fun v19 w a hp20 ha => ?_);obtain ⟨rfl, hS⟩ := hp20;refine jQ [(5, 36, .bool (plainB y)), (6, 37, .bool (plainB y))] ha fun a ha => ?_
   rcases Bool.eq_false_or_eq_true (plainB y) with c21 | c21
   ·
    replace ha := ha.turn 35 (.bool true) rfl (congrArg Value.bool c21);replace ha := ha.turn 36 (.bool true) rfl (congrArg Value.bool c21);replace ha := ha.turn 37 (.bool true) rfl (congrArg Value.bool c21);refine jQ [(7, 38, ptr g1_0 0)] ha fun a ha => ?_;refine qW (d := 39) (b := g1_0) (j := 0) ha (hS.blk 1 rfl) rfl fun a ha => ?_;refine jQ [(9, 40, .bool (!(decide (x.f0 = 3)))), (10, 41, .bool (!(decide (x.f0 = 3))))] ha fun a ha => ?_
    by_cases c22 : x.f0 = 3
    ·
     replace ha := ha.turn 40 (.bool false) rfl (congrArg Value.bool (qZ (decide_eq_true c22)));replace ha := ha.turn 41 (.bool false) rfl (congrArg Value.bool (qZ (decide_eq_true c22)));refine jQ [(11, 42, ptr g1_1 0)] ha fun a ha => ?_;refine qW (d := 43) (b := g1_1) (j := 0) ha (hS.blk 0 rfl) rfl fun a ha => ?_;refine jQ [(13, 44, .bool (!(decide (y.f0 = 3)))), (14, 45, .bool (!(decide (y.f0 = 3)))), (15, 46, .bool (!(decide (y.f0 = 3)))), (16, 47, .bool (!(decide (y.f0 = 3))))] ha fun a ha => ?_
     by_cases c23 : y.f0 = 3
     ·
      replace ha := ha.turn 44 (.bool false) rfl (congrArg Value.bool (qZ (decide_eq_true c23)));replace ha := ha.turn 45 (.bool false) rfl (congrArg Value.bool (qZ (decide_eq_true c23)));replace ha := ha.turn 46 (.bool false) rfl (congrArg Value.bool (qZ (decide_eq_true c23)));replace ha := ha.turn 47 (.bool false) rfl (congrArg Value.bool (qZ (decide_eq_true c23)));refine jQ [(17, 48, undef), (18, 49, undef), (19, 50, undef), (20, 51, undef), (21, 52, .bool false), (22, 53, .bool false), (23, 54, undef), (24, 55, undef), (25, 56, undef), (26, 57, undef), (27, 58, .bool false), (28, 59, .bool false), (29, 60, undef), (30, 61, undef), (31, 62, undef), (32, 63, undef), (33, 64, .bool false), (34, 11, .bool false)] ha fun a ha => ?_;refine jZ ?_;replace ha := ha.as [(5, ptr b3 0), (6, .bool false), (7, .bool false), (8, .slice sb.A sb.n sb.c), (11, .bool false)] rfl;refine jJ (wp_seq (jX [0, 1, 2, 3, 4, 5, 6, 7, 8] (jQ [(0, 65, .bool false), (1, 66, .bool false), (2, 67, undef), (3, 68, undef), (4, 69, undef), (5, 70, undef), (6, 71, .bool false), (7, 6, .bool false), (8, 7, .bool true)] ha fun a ha => ?_)));refine jZ (jJ (wp_ret (qK ha (by kernel_rfl) (jG (t := 6) ha rfl) (jG (t := 7) ha rfl) ?_)));have hE : (exB x y && !jumpB b x2) = false := by unfold exB jumpB; simp only [c18, c21, c22, c23, eq_self, decide_true, decide_false, Bool.true_and, Bool.and_true, Bool.false_and, Bool.and_false, Bool.not_true, Bool.not_false, Bool.and_self]
      rw [canP_yes c7 hb hx hy, hE];exact ⟨rfl, Sat.rest [_, _, _, _] hS⟩
     replace ha := ha.turn 44 (.bool true) rfl (congrArg Value.bool (qV (decide_eq_false c23)));replace ha := ha.turn 45 (.bool true) rfl (congrArg Value.bool (qV (decide_eq_false c23)));replace ha := ha.turn 46 (.bool true) rfl (congrArg Value.bool (qV (decide_eq_false c23)));replace ha := ha.turn 47 (.bool true) rfl (congrArg Value.bool (qV (decide_eq_false c23)));refine xX 48 ha (hS.blk 1 rfl) fun a ha => ?_;refine xX 49 ha (hS.blk 0 rfl) fun a ha => ?_;refine jH (qY 50 (vs := [.agg #[iv x.f0, iv x.f1, iv x.f2], .agg #[iv y.f0, iv y.f1, iv y.f2]]) ha (shareI_sat (x := x) (y := y) hS) fun v24 w a hp25 ha => ?_);obtain ⟨rfl, hS⟩ := hp25;refine jQ [(20, 51, .bool (!((sharB2 x y)))), (21, 52, .bool (!((sharB2 x y)))), (22, 53, .bool (!((sharB2 x y))))] ha fun a ha => ?_
     rcases Bool.eq_false_or_eq_true (sharB2 x y) with c26 | c26
     ·
      replace ha := ha.turn 50 (.bool true) rfl (congrArg Value.bool c26);replace ha := ha.turn 51 (.bool false) rfl (congrArg Value.bool (qZ c26));replace ha := ha.turn 52 (.bool false) rfl (congrArg Value.bool (qZ c26));replace ha := ha.turn 53 (.bool false) rfl (congrArg Value.bool (qZ c26));refine jQ [(23, 54, undef), (24, 55, undef), (25, 56, undef), (26, 57, undef), (27, 58, .bool false), (28, 59, .bool false), (29, 60, undef), (30, 61, undef), (31, 62, undef), (32, 63, undef), (33, 64, .bool false), (34, 11, .bool false)] ha fun a ha => ?_;refine jZ ?_;replace ha := ha.as [(5, ptr b3 0), (6, .bool false), (7, .bool false), (8, .slice sb.A sb.n sb.c), (11, .bool false)] rfl;refine jJ (wp_seq (jX [0, 1, 2, 3, 4, 5, 6, 7, 8] (jQ [(0, 65, .bool false), (1, 66, .bool false), (2, 67, undef), (3, 68, undef), (4, 69, undef), (5, 70, undef), (6, 71, .bool false), (7, 6, .bool false), (8, 7, .bool true)] ha fun a ha => ?_)));refine jZ (jJ (wp_ret (qK ha (by kernel_rfl) (jG (t := 6) ha rfl) (jG (t := 7) ha rfl) ?_)));have hE : (exB x y && !jumpB b x2) = false := by unfold exB jumpB; simp only [c18, c21, c22, c23, c26, eq_self, decide_true, decide_false, Bool.true_and, Bool.and_true, Bool.false_and, Bool.and_false, Bool.not_true, Bool.not_false, Bool.and_self]
      rw [canP_yes c7 hb hx hy, hE];exact ⟨rfl, Sat.rest [_, _, _, _] hS⟩
     replace ha := ha.turn 50 (.bool false) rfl (congrArg Value.bool c26);replace ha := ha.turn 51 (.bool true) rfl (congrArg Value.bool (qV c26));replace ha := ha.turn 52 (.bool true) rfl (congrArg Value.bool (qV c26));replace ha := ha.turn 53 (.bool true) rfl (congrArg Value.bool (qV c26));refine xX 54 ha (hS.blk 1 rfl) fun a ha => ?_;refine xX 55 ha (hS.blk 0 rfl) fun a ha => ?_;refine jH (qY 56 (vs := [.agg #[iv x.f0, iv x.f1, iv x.f2], .agg #[iv y.f0, iv y.f1, iv y.f2]]) ha (distI_sat (x := x) (y := y) hS) fun v27 w a hp28 ha => ?_);obtain ⟨rfl, hS⟩ := hp28;refine jQ [(26, 57, .bool (!((distB x y)))), (27, 58, .bool (!((distB x y)))), (28, 59, .bool (!((distB x y))))] ha fun a ha => ?_
     rcases Bool.eq_false_or_eq_true (distB x y) with c29 | c29
     ·
      replace ha := ha.turn 56 (.bool true) rfl (congrArg Value.bool c29);replace ha := ha.turn 57 (.bool false) rfl (congrArg Value.bool (qZ c29));replace ha := ha.turn 58 (.bool false) rfl (congrArg Value.bool (qZ c29));replace ha := ha.turn 59 (.bool false) rfl (congrArg Value.bool (qZ c29));refine jQ [(29, 60, undef), (30, 61, undef), (31, 62, undef), (32, 63, undef), (33, 64, .bool false), (34, 11, .bool false)] ha fun a ha => ?_;refine jZ ?_;replace ha := ha.as [(5, ptr b3 0), (6, .bool false), (7, .bool false), (8, .slice sb.A sb.n sb.c), (11, .bool false)] rfl;refine jJ (wp_seq (jX [0, 1, 2, 3, 4, 5, 6, 7, 8] (jQ [(0, 65, .bool false), (1, 66, .bool false), (2, 67, undef), (3, 68, undef), (4, 69, undef), (5, 70, undef), (6, 71, .bool false), (7, 6, .bool false), (8, 7, .bool true)] ha fun a ha => ?_)));refine jZ (jJ (wp_ret (qK ha (by kernel_rfl) (jG (t := 6) ha rfl) (jG (t := 7) ha rfl) ?_)));have hE : (exB x y && !jumpB b x2) = false := by unfold exB jumpB; simp only [c18, c21, c22, c23, c26, c29, eq_self, decide_true, decide_false, Bool.true_and, Bool.and_true, Bool.false_and, Bool.and_false, Bool.not_true, Bool.not_false, Bool.and_self]
      rw [canP_yes c7 hb hx hy, hE];exact ⟨rfl, Sat.rest [_, _, _, _] hS⟩
     replace ha := ha.turn 56 (.bool false) rfl (congrArg Value.bool c29);replace ha := ha.turn 57 (.bool true) rfl (congrArg Value.bool (qV c29));replace ha := ha.turn 58 (.bool true) rfl (congrArg Value.bool (qV c29));replace ha := ha.turn 59 (.bool true) rfl (congrArg Value.bool (qV c29));refine xX 60 ha (hS.blk 0 rfl) fun a ha => ?_;refine xX 61 ha (hS.blk 1 rfl) fun a ha => ?_;refine jH (qY 62 (vs := [.agg #[iv y.f0, iv y.f1, iv y.f2], .agg #[iv x.f0, iv x.f1, iv x.f2]]) ha (distI_sat (x := y) (y := x) hS) fun v30 w a hp31 ha => ?_);obtain ⟨rfl, hS⟩ := hp31;refine jQ [(32, 63, .bool (!((distB y x)))), (33, 64, .bool (!((distB y x)))), (34, 11, .bool (!((distB y x))))] ha fun a ha => ?_;refine jZ ?_;replace ha := ha.as [(5, ptr b3 0), (6, .bool false), (7, .bool false), (8, .slice sb.A sb.n sb.c), (11, .bool (!((distB y x))))] rfl;refine jJ (wp_seq (jX [0, 1, 2, 3, 4, 5, 6, 7, 8] (jQ [(0, 65, .bool (!((distB y x)))), (1, 66, .bool (!((distB y x))))] ha fun a ha => ?_)))
     rcases Bool.eq_false_or_eq_true (distB y x) with c32 | c32
     ·
      replace ha := ha.turn 11 (.bool false) rfl (congrArg Value.bool (qZ c32));replace ha := ha.turn 65 (.bool false) rfl (congrArg Value.bool (qZ c32));replace ha := ha.turn 66 (.bool false) rfl (congrArg Value.bool (qZ c32));refine jQ [(2, 67, undef), (3, 68, undef), (4, 69, undef), (5, 70, undef), (6, 71, .bool false), (7, 6, .bool false), (8, 7, .bool true)] ha fun a ha => ?_;refine jZ (jJ (wp_ret (qK ha (by kernel_rfl) (jG (t := 6) ha rfl) (jG (t := 7) ha rfl) ?_)));have hE : (exB x y && !jumpB b x2) = false := by unfold exB jumpB; simp only [c18, c21, c22, c23, c26, c29, c32, eq_self, decide_true, decide_false, Bool.true_and, Bool.and_true, Bool.false_and, Bool.and_false, Bool.not_true, Bool.not_false, Bool.and_self]
      rw [canP_yes c7 hb hx hy, hE];exact ⟨rfl, Sat.rest [_, _, _, _] hS⟩
     replace ha := ha.turn 11 (.bool true) rfl (congrArg Value.bool (qV c32));replace ha := ha.turn 65 (.bool true) rfl (congrArg Value.bool (qV c32));replace ha := ha.turn 66 (.bool true) rfl (congrArg Value.bool (qV c32));refine jQ [(2, 67, .slice sb.A sb.n sb.c), (3, 68, .func (.func 64) #[] #[ptr b3 0])] ha fun a ha => ?_;replace hS := hS.pickN 4 [2, 0, 1, 3];refine jH (qY 69 (vs := [.slice sb.A sb.n sb.c, .func (.func 64) #[] #[ptr b3 0]]) ha (conS_sat (F := 64) (cap := [ptr b3 0]) (p := jmpB x2) hS hrb hb1 Try.func64 (by kernel_rfl) (fun w1 x h1 => canC_sat h1 ⟨hx2.1, by omega⟩)) fun v33 w a hp34 ha => ?_);obtain ⟨rfl, hS⟩ := hp34;refine jQ [(5, 70, .bool (!((b.any (jmpB x2))))), (6, 71, .bool (!((b.any (jmpB x2))))), (7, 6, .bool (!((b.any (jmpB x2))))), (8, 7, .bool true)] ha fun a ha => ?_;refine jZ (jJ (wp_ret (qK ha (by kernel_rfl) (jG (t := 6) ha rfl) (jG (t := 7) ha rfl) ?_)));have hE : (exB x y && !jumpB b x2) = !((b.any (jmpB x2))) := by unfold exB jumpB; simp only [c18, c21, c22, c23, c26, c29, c32, eq_self, decide_true, decide_false, Bool.true_and, Bool.and_true, Bool.false_and, Bool.and_false, Bool.not_true, Bool.not_false, Bool.and_self]
     rw [canP_yes c7 hb hx hy, hE];exact ⟨rfl, Sat.rest [_, _, _, _] hS⟩
    replace ha := ha.turn 40 (.bool true) rfl (congrArg Value.bool (qV (decide_eq_false c22)));replace ha := ha.turn 41 (.bool true) rfl (congrArg Value.bool (qV (decide_eq_false c22)));refine jQ [(11, 42, undef), (12, 43, undef), (13, 44, undef), (14, 45, .bool true), (15, 46, .bool true), (16, 47, .bool true)] ha fun a ha => ?_;refine xX 48 ha (hS.blk 1 rfl) fun a ha => ?_;refine xX 49 ha (hS.blk 0 rfl) fun a ha => ?_;refine jH (qY 50 (vs := [.agg #[iv x.f0, iv x.f1, iv x.f2], .agg #[iv y.f0, iv y.f1, iv y.f2]]) ha (shareI_sat (x := x) (y := y) hS) fun v35 w a hp36 ha => ?_);obtain ⟨rfl, hS⟩ := hp36;refine jQ [(20, 51, .bool (!((sharB2 x y)))), (21, 52, .bool (!((sharB2 x y)))), (22, 53, .bool (!((sharB2 x y))))] ha fun a ha => ?_
    rcases Bool.eq_false_or_eq_true (sharB2 x y) with c37 | c37
    ·
     replace ha := ha.turn 50 (.bool true) rfl (congrArg Value.bool c37);replace ha := ha.turn 51 (.bool false) rfl (congrArg Value.bool (qZ c37));replace ha := ha.turn 52 (.bool false) rfl (congrArg Value.bool (qZ c37));replace ha := ha.turn 53 (.bool false) rfl (congrArg Value.bool (qZ c37));refine jQ [(23, 54, undef), (24, 55, undef), (25, 56, undef), (26, 57, undef), (27, 58, .bool false), (28, 59, .bool false), (29, 60, undef), (30, 61, undef), (31, 62, undef), (32, 63, undef), (33, 64, .bool false), (34, 11, .bool false)] ha fun a ha => ?_;refine jZ ?_;replace ha := ha.as [(5, ptr b3 0), (6, .bool false), (7, .bool false), (8, .slice sb.A sb.n sb.c), (11, .bool false)] rfl;refine jJ (wp_seq (jX [0, 1, 2, 3, 4, 5, 6, 7, 8] (jQ [(0, 65, .bool false), (1, 66, .bool false), (2, 67, undef), (3, 68, undef), (4, 69, undef), (5, 70, undef), (6, 71, .bool false), (7, 6, .bool false), (8, 7, .bool true)] ha fun a ha => ?_)));refine jZ (jJ (wp_ret (qK ha (by kernel_rfl) (jG (t := 6) ha rfl) (jG (t := 7) ha rfl) ?_)));have hE : (exB x y && !jumpB b x2) = false := by unfold exB jumpB; simp only [c18, c21, c22, c37, eq_self, decide_true, decide_false, Bool.true_and, Bool.and_true, Bool.false_and, Bool.and_false, Bool.not_true, Bool.not_false, Bool.and_self]
     rw [canP_yes c7 hb hx hy, hE];exact ⟨rfl, Sat.rest [_, _, _, _] hS⟩
    replace ha := ha.turn 50 (.bool false) rfl (congrArg Value.bool c37);replace ha := ha.turn 51 (.bool true) rfl (congrArg Value.bool (qV c37));replace ha := ha.turn 52 (.bool true) rfl (congrArg Value.bool (qV c37));replace ha := ha.turn 53 (.bool true) rfl (congrArg Value.bool (qV c37));refine xX 54 ha (hS.blk 1 rfl) fun a ha => ?_;refine xX 55 ha (hS.blk 0 rfl) fun a ha => ?_;refine jH (qY 56 (vs := [.agg #[iv x.f0, iv x.f1, iv x.f2], .agg #[iv y.f0, iv y.f1, iv y.f2]]) ha (distI_sat (x := x) (y := y) hS) fun v38 w a hp39 ha => ?_);obtain ⟨rfl, hS⟩ := hp39;refine jQ [(26, 57, .bool (!((distB x y)))), (27, 58, .bool (!((distB x y)))), (28, 59, .bool (!((distB x y))))] ha fun a ha => ?_
    rcases Bool.eq_false_or_eq_true (distB x y) with c40 | c40
    ·
     replace ha := ha.turn 56 (.bool true) rfl (congrArg Value.bool c40);replace ha := ha.turn 57 (.bool false) rfl (congrArg Value.bool (qZ c40));replace ha := ha.turn 58 (.bool false) rfl (congrArg Value.bool (qZ c40));replace ha := ha.turn 59 (.bool false) rfl (congrArg Value.bool (qZ c40));refine jQ [(29, 60, undef), (30, 61, undef), (31, 62, undef), (32, 63, undef), (33, 64, .bool false), (34, 11, .bool false)] ha fun a ha => ?_;refine jZ ?_;replace ha := ha.as [(5, ptr b3 0), (6, .bool false), (7, .bool false), (8, .slice sb.A sb.n sb.c), (11, .bool false)] rfl;refine jJ (wp_seq (jX [0, 1, 2, 3, 4, 5, 6, 7, 8] (jQ [(0, 65, .bool false), (1, 66, .bool false), (2, 67, undef), (3, 68, undef), (4, 69, undef), (5, 70, undef), (6, 71, .bool false), (7, 6, .bool false), (8, 7, .bool true)] ha fun a ha => ?_)));refine jZ (jJ (wp_ret (qK ha (by kernel_rfl) (jG (t := 6) ha rfl) (jG (t := 7) ha rfl) ?_)));have hE : (exB x y && !jumpB b x2) = false := by unfold exB jumpB; simp only [c18, c21, c22, c37, c40, eq_self, decide_true, decide_false, Bool.true_and, Bool.and_true, Bool.false_and, Bool.and_false, Bool.not_true, Bool.not_false, Bool.and_self]
     rw [canP_yes c7 hb hx hy, hE];exact ⟨rfl, Sat.rest [_, _, _, _] hS⟩
    replace ha := ha.turn 56 (.bool false) rfl (congrArg Value.bool c40);replace ha := ha.turn 57 (.bool true) rfl (congrArg Value.bool (qV c40));replace ha := ha.turn 58 (.bool true) rfl (congrArg Value.bool (qV c40));replace ha := ha.turn 59 (.bool true) rfl (congrArg Value.bool (qV c40));refine xX 60 ha (hS.blk 0 rfl) fun a ha => ?_;refine xX 61 ha (hS.blk 1 rfl) fun a ha => ?_;refine jH (qY 62 (vs := [.agg #[iv y.f0, iv y.f1, iv y.f2], .agg #[iv x.f0, iv x.f1, iv x.f2]]) ha (distI_sat (x := y) (y := x) hS) fun v41 w a hp42 ha => ?_);obtain ⟨rfl, hS⟩ := hp42;refine jQ [(32, 63, .bool (!((distB y x)))), (33, 64, .bool (!((distB y x)))), (34, 11, .bool (!((distB y x))))] ha fun a ha => ?_;refine jZ ?_;replace ha := ha.as [(5, ptr b3 0), (6, .bool false), (7, .bool false), (8, .slice sb.A sb.n sb.c), (11, .bool (!((distB y x))))] rfl;refine jJ (wp_seq (jX [0, 1, 2, 3, 4, 5, 6, 7, 8] (jQ [(0, 65, .bool (!((distB y x)))), (1, 66, .bool (!((distB y x))))] ha fun a ha => ?_)))
    rcases Bool.eq_false_or_eq_true (distB y x) with c43 | c43
    ·
     replace ha := ha.turn 11 (.bool false) rfl (congrArg Value.bool (qZ c43));replace ha := ha.turn 65 (.bool false) rfl (congrArg Value.bool (qZ c43));replace ha := ha.turn 66 (.bool false) rfl (congrArg Value.bool (qZ c43));refine jQ [(2, 67, undef), (3, 68, undef), (4, 69, undef), (5, 70, undef), (6, 71, .bool false), (7, 6, .bool false), (8, 7, .bool true)] ha fun a ha => ?_;refine jZ (jJ (wp_ret (qK ha (by kernel_rfl) (jG (t := 6) ha rfl) (jG (t := 7) ha rfl) ?_)));have hE : (exB x y && !jumpB b x2) = false := by unfold exB jumpB; simp only [c18, c21, c22, c37, c40, c43, eq_self, decide_true, decide_false, Bool.true_and, Bool.and_true, Bool.false_and, Bool.and_false, Bool.not_true, Bool.not_false, Bool.and_self]
     rw [canP_yes c7 hb hx hy, hE];exact ⟨rfl, Sat.rest [_, _, _, _] hS⟩
    replace ha := ha.turn 11 (.bool true) rfl (congrArg Value.bool (qV c43));replace ha := ha.turn 65 (.bool true) rfl (congrArg Value.bool (qV c43));replace ha := ha.turn 66 (.bool true) rfl (congrArg Value.bool (qV c43));refine jQ [(2, 67, .slice sb.A sb.n sb.c), (3, 68, .func (.func 64) #[] #[ptr b3 0])] ha fun a ha => ?_;replace hS := hS.pickN 4 [2, 0, 1, 3];refine jH (qY 69 (vs := [.slice sb.A sb.n sb.c, .func (.func 64) #[] #[ptr b3 0]]) ha (conS_sat (F := 64) (cap := [ptr b3 0]) (p := jmpB x2) hS hrb hb1 Try.func64 (by kernel_rfl) (fun w1 x h1 => canC_sat h1 ⟨hx2.1, by omega⟩)) fun v44 w a hp45 ha => ?_);obtain ⟨rfl, hS⟩ := hp45;refine jQ [(5, 70, .bool (!((b.any (jmpB x2))))), (6, 71, .bool (!((b.any (jmpB x2))))), (7, 6, .bool (!((b.any (jmpB x2))))), (8, 7, .bool true)] ha fun a ha => ?_;refine jZ (jJ (wp_ret (qK ha (by kernel_rfl) (jG (t := 6) ha rfl) (jG (t := 7) ha rfl) ?_)));have hE : (exB x y && !jumpB b x2) = !((b.any (jmpB x2))) := by unfold exB jumpB; simp only [c18, c21, c22, c37, c40, c43, eq_self, decide_true, decide_false, Bool.true_and, Bool.and_true, Bool.false_and, Bool.and_false, Bool.not_true, Bool.not_false, Bool.and_self]
    rw [canP_yes c7 hb hx hy, hE];exact ⟨rfl, Sat.rest [_, _, _, _] hS⟩
   replace ha := ha.turn 35 (.bool false) rfl (congrArg Value.bool c21);replace ha := ha.turn 36 (.bool false) rfl (congrArg Value.bool c21);replace ha := ha.turn 37 (.bool false) rfl (congrArg Value.bool c21);refine jQ [(7, 38, undef), (8, 39, undef), (9, 40, undef), (10, 41, undef), (11, 42, undef), (12, 43, undef), (13, 44, undef), (14, 45, undef), (15, 46, .bool false), (16, 47, .bool false), (17, 48, undef), (18, 49, undef), (19, 50, undef), (20, 51, undef), (21, 52, .bool false), (22, 53, .bool false), (23, 54, undef), (24, 55, undef), (25, 56, undef), (26, 57, undef), (27, 58, .bool false), (28, 59, .bool false), (29, 60, undef), (30, 61, undef), (31, 62, undef), (32, 63, undef), (33, 64, .bool false), (34, 11, .bool false)] ha fun a ha => ?_;refine jZ ?_;replace ha := ha.as [(5, ptr b3 0), (6, .bool false), (7, .bool false), (8, .slice sb.A sb.n sb.c), (11, .bool false)] rfl;refine jJ (wp_seq (jX [0, 1, 2, 3, 4, 5, 6, 7, 8] (jQ [(0, 65, .bool false), (1, 66, .bool false), (2, 67, undef), (3, 68, undef), (4, 69, undef), (5, 70, undef), (6, 71, .bool false), (7, 6, .bool false), (8, 7, .bool true)] ha fun a ha => ?_)));refine jZ (jJ (wp_ret (qK ha (by kernel_rfl) (jG (t := 6) ha rfl) (jG (t := 7) ha rfl) ?_)));have hE : (exB x y && !jumpB b x2) = false := by unfold exB jumpB; simp only [c18, c21, eq_self, decide_true, decide_false, Bool.true_and, Bool.and_true, Bool.false_and, Bool.and_false, Bool.not_true, Bool.not_false, Bool.and_self]
   rw [canP_yes c7 hb hx hy, hE];exact ⟨rfl, Sat.rest [_, _, _, _] hS⟩
  replace ha := ha.turn 32 (.bool false) rfl (congrArg Value.bool c18)
  replace ha := ha.turn 33 (.bool false) rfl (congrArg Value.bool c18)
  refine jQ [(3, 34, undef), (4, 35, undef), (5, 36, .bool false), (6, 37, .bool false), (7, 38, undef), (8, 39, undef), (9, 40, undef), (10, 41, undef), (11, 42, undef), (12, 43, undef), (13, 44, undef), (14, 45, undef), (15, 46, .bool false), (16, 47, .bool false), (17, 48, undef), (18, 49, undef), (19, 50, undef), (20, 51, undef), (21, 52, .bool false), (22, 53, .bool false), (23, 54, undef), (24, 55, undef), (25, 56, undef), (26, 57, undef), (27, 58, .bool false), (28, 59, .bool false), (29, 60, undef), (30, 61, undef), (31, 62, undef), (32, 63, undef), (33, 64, .bool false), (34, 11, .bool false)] ha fun a ha => ?_
  refine jZ ?_
  replace ha := ha.as [(5, ptr b3 0), (6, .bool false), (7, .bool false), (8, .slice sb.A sb.n sb.c), (11, .bool false)] rfl
  refine jJ (wp_seq (jX [0, 1, 2, 3, 4, 5, 6, 7, 8] (jQ [(0, 65, .bool false), (1, 66, .bool false), (2, 67, undef), (3, 68, undef), (4, 69, undef), (5, 70, undef), (6, 71, .bool false), (7, 6, .bool false), (8, 7, .bool true)] ha fun a ha => ?_)))
  refine jZ (jJ (wp_ret (qK ha (by kernel_rfl) (jG (t := 6) ha rfl) (jG (t := 7) ha rfl) ?_)))
  have hE : (exB x y && !jumpB b x2) = false := by unfold exB jumpB; simp only [c18, eq_self, decide_true, decide_false, Bool.true_and, Bool.and_true, Bool.false_and, Bool.and_false, Bool.not_true, Bool.not_false, Bool.and_self]
  rw [canP_yes c7 hb hx hy, hE]
  exact ⟨rfl, Sat.rest [_, _, _, _] hS⟩
 refine jU ha rfl (qV c7) ?_
 refine wp_seq (jX [0, 1] (jQ [(0, 6, .bool false), (1, 7, .bool false)] ha fun a ha => ?_))
 refine jZ (jJ (wp_ret (qJ (qK ha (by kernel_rfl) (jG (t := 6) ha rfl) (jG (t := 7) ha rfl) ?_))))
 rw [canP_no c7]
 exact ⟨rfl, Sat.rest [_, _] hS⟩
theorem impl_CanExchange_sat {w0 w : World} {Rs : List Asn} {s : Sl} {l : List (List ST)} {f x2 : Int} (hS : Sat w0 w Rs) (hr : RdP w s l) (hf : Fits l) :
  Calls Try.prog 18 #[.agg #[.slice s.A s.n s.c], iv f, iv x2] w (Ret fun r w' => r = .tuple #[.bool (canP l f x2).1, .bool (canP l f x2).2] ∧ Sat w0 w' Rs) :=
 (impl_CanExchange_sat0 hr hf).mono fun e w' h => by
  cases e with
  | returned r => exact ⟨h.1, hS.comp h.2⟩
  | _ => exact h.elim
theorem code16 : Try.f16.body = some (Code.seq (cr Try.f16 0 false) (Code.seq (Code.seq (cr Try.f16 1 false) (Code.cond (Operand.tmp 16) (Code.seq (cr Try.f16 2 false) Code.ret) Code.skip)) (Code.seq (cr Try.f16 3 false) (Code.seq (cr Try.f16 4 true) (Code.seq (Code.seq (cr Try.f16 5 false) (Code.cond (Operand.tmp 62) (Code.seq (cr Try.f16 6 false) Code.ret) Code.skip)) (Code.seq (Code.seq (cr Try.f16 7 false) (Code.block 0 (Code.loop (Code.seq (Code.seq (cr Try.f16 8 false) (Code.cond (Operand.tmp 66) Code.skip (Code.exit 0))) (Code.seq (Code.block 1 (Code.seq (cr Try.f16 10 false) (Code.cond (Operand.tmp 84) (Code.seq (cr Try.f16 11 false) Code.ret) Code.skip))) (cr Try.f16 9 false)))))) (Code.seq (cr Try.f16 12 false) Code.ret))))))) := by kernel_rfl
theorem spec_CanExchange_sat0 {w0 : World} {s : Sl} {l : List (List ST)} {f x2 : Int} (hr : RdP w0 s l) (hf : Fits l) :
  Calls Try.prog 16 #[.agg #[.slice s.A s.n s.c], iv f, iv x2] w0 (Ret fun r w' => r = .tuple #[.bool (canP l f x2).1, .bool (canP l f x2).2] ∧ Sat w0 w' []) := by
 have hS : Sat w0 w0 [] := Sat.start w0
 refine enter (n := 85) Try.func16 code16 (by kernel_rfl) (Nat.le_of_ble_eq_true rfl) (fun a ha => ?_)
 replace ha : Has 85 [(0, .agg #[.slice s.A s.n s.c]), (1, iv f), (2, iv x2)] a := ha
 refine wp_seq (jX [0, 1, 2] (jH (qX 3 [.slice s.A s.n s.c] 30 (ptr · 0) ha hS fun b1 w a hb2 hS ha => ?_)))
 refine jQ [(1, 6, .bool false), (2, 7, .bool false)] ha fun a ha => ?_
 refine jZ (jJ (wp_seq (wp_seq (jX [0, 1, 2, 3, 4] (xX 12 ha (hS.blk 0 rfl) fun a ha => ?_)))))
 refine jQ [(1, 13, iv f), (2, 14, iv x2)] ha fun a ha => ?_
 refine jH (qY 15 (vs := [.agg #[.slice s.A s.n s.c], iv f, iv x2]) ha (l9Next_sat hS (hr.sat hS) hf) fun v3 w a hp4 ha => ?_)
 obtain ⟨rfl, hS⟩ := hp4
 refine jQ [(4, 16, .bool (!(placeB 2 l f x2)))] ha fun a ha => ?_
 refine jZ (jJ ?_)
 rcases Bool.eq_false_or_eq_true (placeB 2 l f x2) with c5 | c5
 ·
  obtain ⟨ho, b, hb, hx2⟩ := placeB_ok c5
  have hx1 := okF_lt ho
  have hb1 : b.length ≤ 1048576 := hf.each b (List.mem_of_getElem? hb)
  obtain ⟨hA0, sb, hcb, hrb⟩ := body_rd hr hb
  have hsb := hrb.len
  obtain ⟨x, hx⟩ : ∃ x, b[x2.toNat]? = some x := ⟨_, List.getElem?_eq_getElem (by omega)⟩
  obtain ⟨y, hy⟩ : ∃ y, b[x2.toNat + 1]? = some y := ⟨_, List.getElem?_eq_getElem (by omega)⟩
  refine jK ha rfl (qZ c5) ?_
  refine wp_skip (jJ (wp_seq (jX [0, 1, 2, 3, 4, 5] (jQ [(0, 17, ptr b1 0)] ha fun a ha => ?_))))
  refine qW (d := 18) (b := b1) (j := 0) ha (hS.blk 0 rfl) rfl fun a ha => ?_
  refine jQ [(2, 19, iv f)] ha fun a ha => ?_
  refine xQ (.pointer (some ⟨bk s, of_ s + f.toNat * 1, none⟩)) ha (xY (s := s) (el := 70) (sz := 1) (j := f.toNat) ha (yJ (t := 28) (x := 18) (y := 19) (d := 20)) rfl rfl (by kernel_rfl) (by kernel_rfl) hA0 (Int.toNat_of_nonneg hx1.1).symm (by rw [hr.len]; omega)) fun a ha => ?_
  refine xQ (.slice sb.A sb.n sb.c) ha (xZ ha (xH (t := 70) (x := 20) (d := 21) (ty := 70)) rfl (by kernel_rfl) (fun w' hw => by rw [hw]; rw [Nat.mul_one]; exact pw_cell_below hS.below hcb)) fun a ha => ?_
  refine jQ [(5, 8, .slice sb.A sb.n sb.c)] ha fun a ha => ?_
  refine jZ (jJ (yU (J := fun a_ w_ => ∃ (g1_0 : Nat) (g1_1 : Nat), Has 85 [(2, iv x2), (6, .bool false), (7, .bool false), (8, .slice sb.A sb.n sb.c), (9, ptr g1_0 0), (10, ptr g1_1 0)] a_ ∧ Sat w0 w_ ((SX.blk g1_1 [iv y.f0, iv y.f1, iv y.f2] 72) :: (SX.blk g1_0 [iv x.f0, iv x.f1, iv x.f2] 72) :: (SX.blk b1 [.slice s.A s.n s.c] 30) :: [])) ?_ ?_))
  ·
   refine xK 12 13 (hS.pickN 1 [0]) hS fun w hS => ?_;refine qG (k := 11) [(0, 22, .slice sb.A sb.n sb.c), (1, 23, iv x2)] ha (.inr (hS.pickN 1 [0])) fun a ha => ?_;refine yQ 2 (.pointer (some ⟨bk sb, of_ sb + x2.toNat * 3, none⟩)) ha (xY (el := 72) (sz := 3) (j := x2.toNat) ha (yJ (t := 70) (x := 22) (y := 23) (d := 24)) rfl rfl (by kernel_rfl) (by kernel_rfl) (RdE.at_ (hrb.sat hS) _ _ hx).1 ((Int.toNat_of_nonneg hx2.1).symm) (by rw [((hrb.sat hS)).len]; exact (List.getElem?_eq_some_iff.1 hx).1)) (.inr (hS.pickN 1 [0])) fun a ha => ?_;refine yK 3 (.agg #[iv x.f0, iv x.f1, iv x.f2]) ha (v_loadE (b := bk sb) (f := of_ sb + x2.toNat * 3) (vs := [iv x.f0, iv x.f1, iv x.f2]) ha (xH (t := 72) (x := 24) (d := 25) (ty := 72)) rfl (by kernel_rfl) (fun w' hw o u hu => by exact (RdE.at_ (hrb.sat hw) _ _ hx).2 o u hu)) (hS.pickN 1 [0]) fun a ha => ?_;refine qG (k := 7) [(4, 26, .slice sb.A sb.n sb.c), (5, 27, iv x2)] ha (.inr (hS.pickN 1 [0])) fun a ha => ?_;refine zY 6 28 (x2 + 1) ha (.inr (hS.pickN 1 [0])) fun a ha => ?_;refine yQ 7 (.pointer (some ⟨bk sb, of_ sb + (x2.toNat + 1) * 3, none⟩)) ha (xY (el := 72) (sz := 3) (j := x2.toNat + 1) ha (yJ (t := 70) (x := 26) (y := 28) (d := 29)) rfl rfl (by kernel_rfl) (by kernel_rfl) (RdE.at_ (hrb.sat hS) _ _ hy).1 ((by omega)) (by rw [((hrb.sat hS)).len]; exact (List.getElem?_eq_some_iff.1 hy).1)) (.inr (hS.pickN 1 [0])) fun a ha => ?_;refine yK 8 (.agg #[iv y.f0, iv y.f1, iv y.f2]) ha (v_loadE (b := bk sb) (f := of_ sb + (x2.toNat + 1) * 3) (vs := [iv y.f0, iv y.f1, iv y.f2]) ha (xH (t := 72) (x := 29) (d := 30) (ty := 72)) rfl (by kernel_rfl) (fun w' hw o u hu => by exact (RdE.at_ (hrb.sat hw) _ _ hy).2 o u hu)) (hS.pickN 1 [0]) fun a ha => ?_;refine d_all (rs := [9, 10]) (by kernel_rfl) (by simp) (forall_mem_2 ?_ ?_)
   ·
    refine id (qX 9 [iv 0, iv 0, iv 0] 72 (ptr · 0) ha hS fun b6 w a hb7 hS ha => ?_);refine ⟨.inr (hS.pickN 2 [1]), ?_⟩;refine qU 10 (qX 10 [iv 0, iv 0, iv 0] 72 (ptr · 0) ha hS fun b8 w a hb9 hS ha => ?_);refine ⟨.inr (hS.pickN 3 [2]), ?_⟩;refine qU 11 (o_sa 1 ha (zJ (t := 72) (x := 9) (y := 25)) hS fun w a hS ha => ?_);refine ⟨.inr (hS.pickN 3 [2]), ?_⟩;refine qU 12 (o_sa 0 ha (zJ (t := 72) (x := 10) (y := 30)) hS fun w a hS ha => ?_);refine zQ (xV ?_);replace ha := ha.as [(2, iv x2), (6, .bool false), (7, .bool false), (8, .slice sb.A sb.n sb.c), (9, ptr b6 0), (10, ptr b8 0)] rfl;replace hS : Sat w0 w ((SX.blk b8 [iv y.f0, iv y.f1, iv y.f2] 72) :: (SX.blk b6 [iv x.f0, iv x.f1, iv x.f2] 72) :: (SX.blk b1 [.slice s.A s.n s.c] 30) :: []) := hS;exact jJ ⟨b6, b8, ha.keeps [2, 6, 7, 8, 9, 10] _ rfl, hS⟩
   refine id (qX 10 [iv 0, iv 0, iv 0] 72 (ptr · 0) ha hS fun b10 w a hb11 hS ha => ?_);refine ⟨.inr (hS.pickN 2 [1]), ?_⟩;refine qU 9 (qX 9 [iv 0, iv 0, iv 0] 72 (ptr · 0) ha hS fun b12 w a hb13 hS ha => ?_);refine ⟨.inr (hS.pickN 3 [2]), ?_⟩;refine qU 11 (o_sa 0 ha (zJ (t := 72) (x := 9) (y := 25)) hS fun w a hS ha => ?_);refine ⟨.inr (hS.pickN 3 [2]), ?_⟩;refine qU 12 (o_sa 1 ha (zJ (t := 72) (x := 10) (y := 30)) hS fun w a hS ha => ?_);refine zQ (xV ?_);replace ha := ha.as [(2, iv x2), (6, .bool false), (7, .bool false), (8, .slice sb.A sb.n sb.c), (10, ptr b10 0), (9, ptr b12 0)] rfl;replace hS := hS.pickN 3 [1, 0, 2];exact jJ ⟨b12, b10, ha.keeps [2, 6, 7, 8, 9, 10] _ rfl, hS⟩
  rintro a w ⟨g1_0, g1_1, ha, hS⟩
  refine wp_seq (wp_seq (jX [0, 1, 2, 3, 4, 5, 6, 7, 8, 9, 10, 11, 12, 13, 14, 15, 16, 17, 18, 19, 20, 21, 22, 23, 24, 25, 26, 27, 28, 29, 30, 31] (xX 31 ha (hS.blk 1 rfl) fun a ha => ?_)))
  refine jH (qY 32 (vs := [.agg #[iv x.f0, iv x.f1, iv x.f2]]) ha (plainQ_sat (x := x) hS) fun v14 w a hp15 ha => ?_)
  obtain ⟨rfl, hS⟩ := hp15
  refine jQ [(2, 33, .bool (!((plainB x)))), (3, 34, .bool (!((plainB x))))] ha fun a ha => ?_
  rcases Bool.eq_false_or_eq_true (plainB x) with c16 | c16
  ·
   replace ha := ha.turn 32 (.bool true) rfl (congrArg Value.bool c16);replace ha := ha.turn 33 (.bool false) rfl (congrArg Value.bool (qZ c16));replace ha := ha.turn 34 (.bool false) rfl (congrArg Value.bool (qZ c16));refine xX 35 ha (hS.blk 0 rfl) fun a ha => ?_;refine jH (qY 36 (vs := [.agg #[iv y.f0, iv y.f1, iv y.f2]]) ha (plainQ_sat (x := y) hS) fun v17 w a hp18 ha => ?_);obtain ⟨rfl, hS⟩ := hp18;refine jQ [(6, 37, .bool (!((plainB y)))), (7, 38, .bool (!((plainB y)))), (8, 39, .bool (!((plainB y))))] ha fun a ha => ?_
   rcases Bool.eq_false_or_eq_true (plainB y) with c19 | c19
   ·
    replace ha := ha.turn 36 (.bool true) rfl (congrArg Value.bool c19);replace ha := ha.turn 37 (.bool false) rfl (congrArg Value.bool (qZ c19));replace ha := ha.turn 38 (.bool false) rfl (congrArg Value.bool (qZ c19));replace ha := ha.turn 39 (.bool false) rfl (congrArg Value.bool (qZ c19));refine jQ [(9, 40, ptr g1_0 0)] ha fun a ha => ?_;refine qW (d := 41) (b := g1_0) (j := 0) ha (hS.blk 1 rfl) rfl fun a ha => ?_;refine jQ [(11, 42, .bool (decide (x.f0 = 3))), (12, 43, .bool (decide (x.f0 = 3)))] ha fun a ha => ?_
    by_cases c20 : x.f0 = 3
    ·
     replace ha := ha.turn 42 (.bool true) rfl (congrArg Value.bool (decide_eq_true c20));replace ha := ha.turn 43 (.bool true) rfl (congrArg Value.bool (decide_eq_true c20));refine jQ [(13, 44, ptr g1_1 0)] ha fun a ha => ?_;refine qW (d := 45) (b := g1_1) (j := 0) ha (hS.blk 0 rfl) rfl fun a ha => ?_;refine jQ [(15, 46, .bool (decide (y.f0 = 3))), (16, 47, .bool (decide (y.f0 = 3))), (17, 48, .bool (decide (y.f0 = 3))), (18, 49, .bool (decide (y.f0 = 3)))] ha fun a ha => ?_
     by_cases c21 : y.f0 = 3
     ·
      replace ha := ha.turn 46 (.bool true) rfl (congrArg Value.bool (decide_eq_true c21));replace ha := ha.turn 47 (.bool true) rfl (congrArg Value.bool (decide_eq_true c21));replace ha := ha.turn 48 (.bool true) rfl (congrArg Value.bool (decide_eq_true c21));replace ha := ha.turn 49 (.bool true) rfl (congrArg Value.bool (decide_eq_true c21));refine jQ [(19, 50, undef), (20, 51, undef), (21, 52, undef), (22, 53, undef), (23, 54, undef), (24, 55, undef), (25, 56, .bool true), (26, 57, .bool true), (27, 58, undef), (28, 59, undef), (29, 60, undef), (30, 61, undef), (31, 62, .bool true)] ha fun a ha => ?_;refine jZ ?_;replace ha := ha.as [(2, iv x2), (6, .bool false), (7, .bool false), (8, .slice sb.A sb.n sb.c), (62, .bool true)] rfl;refine jJ ?_;refine jU ha rfl rfl ?_;refine wp_seq (jX [0, 1] (jQ [(0, 6, .bool false), (1, 7, .bool true)] ha fun a ha => ?_));refine jZ (jJ (wp_ret (qJ (qK ha (by kernel_rfl) (jG (t := 6) ha rfl) (jG (t := 7) ha rfl) ?_))));have hE : (exB x y && !jumpB b x2) = false := by unfold exB jumpB; simp only [c16, c19, c20, c21, eq_self, decide_true, decide_false, Bool.true_and, Bool.and_true, Bool.false_and, Bool.and_false, Bool.not_true, Bool.not_false, Bool.and_self]
      rw [canP_yes c5 hb hx hy, hE];exact ⟨rfl, Sat.rest [_, _, _] hS⟩
     replace ha := ha.turn 46 (.bool false) rfl (congrArg Value.bool (decide_eq_false c21));replace ha := ha.turn 47 (.bool false) rfl (congrArg Value.bool (decide_eq_false c21));replace ha := ha.turn 48 (.bool false) rfl (congrArg Value.bool (decide_eq_false c21));replace ha := ha.turn 49 (.bool false) rfl (congrArg Value.bool (decide_eq_false c21));refine xX 50 ha (hS.blk 1 rfl) fun a ha => ?_;refine jH (qY 51 (vs := [.agg #[iv x.f0, iv x.f1, iv x.f2]]) ha (shareQ_sat (x := x) hS) fun v22 w a hp23 ha => ?_);obtain ⟨rfl, hS⟩ := hp23;refine jQ [(21, 52, .bool (sharedB x))] ha fun a ha => ?_
     rcases Bool.eq_false_or_eq_true (sharedB x) with c24 | c24
     ·
      replace ha := ha.turn 51 (.bool true) rfl (congrArg Value.bool c24);replace ha := ha.turn 52 (.bool true) rfl (congrArg Value.bool c24);refine xX 53 ha (hS.blk 0 rfl) fun a ha => ?_;refine jH (qY 54 (vs := [.agg #[iv y.f0, iv y.f1, iv y.f2]]) ha (shareQ_sat (x := y) hS) fun v25 w a hp26 ha => ?_);obtain ⟨rfl, hS⟩ := hp26;refine jQ [(24, 55, .bool (sharedB y)), (25, 56, .bool (sharedB y)), (26, 57, .bool (sharedB y))] ha fun a ha => ?_
      rcases Bool.eq_false_or_eq_true (sharedB y) with c27 | c27
      ·
       replace ha := ha.turn 54 (.bool true) rfl (congrArg Value.bool c27);replace ha := ha.turn 55 (.bool true) rfl (congrArg Value.bool c27);replace ha := ha.turn 56 (.bool true) rfl (congrArg Value.bool c27);replace ha := ha.turn 57 (.bool true) rfl (congrArg Value.bool c27);refine jQ [(27, 58, undef), (28, 59, undef), (29, 60, undef), (30, 61, undef), (31, 62, .bool true)] ha fun a ha => ?_;refine jZ ?_;replace ha := ha.as [(2, iv x2), (6, .bool false), (7, .bool false), (8, .slice sb.A sb.n sb.c), (62, .bool true)] rfl;refine jJ ?_;refine jU ha rfl rfl ?_;refine wp_seq (jX [0, 1] (jQ [(0, 6, .bool false), (1, 7, .bool true)] ha fun a ha => ?_));refine jZ (jJ (wp_ret (qJ (qK ha (by kernel_rfl) (jG (t := 6) ha rfl) (jG (t := 7) ha rfl) ?_))));have hE : (exB x y && !jumpB b x2) = false := by unfold exB jumpB sharB2; simp only [c16, c19, c20, c21, c24, c27, eq_self, decide_true, decide_false, Bool.true_and, Bool.and_true, Bool.false_and, Bool.and_false, Bool.not_true, Bool.not_false, Bool.and_self]
       rw [canP_yes c5 hb hx hy, hE];exact ⟨rfl, Sat.rest [_, _, _] hS⟩
      replace ha := ha.turn 54 (.bool false) rfl (congrArg Value.bool c27);replace ha := ha.turn 55 (.bool false) rfl (congrArg Value.bool c27);replace ha := ha.turn 56 (.bool false) rfl (congrArg Value.bool c27);replace ha := ha.turn 57 (.bool false) rfl (congrArg Value.bool c27);refine xX 58 ha (hS.blk 1 rfl) fun a ha => ?_;refine xX 59 ha (hS.blk 0 rfl) fun a ha => ?_;refine jH (qY 60 (vs := [.agg #[iv x.f0, iv x.f1, iv x.f2], .agg #[iv y.f0, iv y.f1, iv y.f2]]) ha (freeQ_sat (x := x) (y := y) hS) fun v28 w a hp29 ha => ?_);obtain ⟨rfl, hS⟩ := hp29;refine jQ [(30, 61, .bool (!((freeB x y)))), (31, 62, .bool (!((freeB x y))))] ha fun a ha => ?_;refine jZ ?_;replace ha := ha.as [(2, iv x2), (6, .bool false), (7, .bool false), (8, .slice sb.A sb.n sb.c), (62, .bool (!((freeB x y))))] rfl;refine jJ ?_
      rcases Bool.eq_false_or_eq_true (freeB x y) with c30 | c30
      ·
       refine jK ha rfl (qZ c30) ?_;refine wp_skip (jJ (wp_seq (wp_seq (jX [0] (jQ [(0, 11, iv 0)] ha fun a ha => ?_)))));refine jZ (jJ (wp_block ?_));replace hS := hS.pickN 3 [];refine wp_loop_ghost (fun n_ a_ w_ => ∃ (i : Nat), n_ = b.length - i ∧ (i ≤ b.length) ∧ (∀ (j : Nat) z, j < i → b[j]? = some z → jmpB x2 z = false) ∧ Has 85 [(2, iv x2), (6, .bool false), (7, .bool false), (8, .slice sb.A sb.n sb.c), (11, iv (i : Int))] a_ ∧ Sat w0 w_ ([])) _ ⟨0, rfl, Nat.zero_le _, (fun j z hj => by omega), ha.keeps [2, 6, 7, 8, 11] _ rfl, hS⟩ ?_
       rintro n_ a w ⟨i, rfl, hi, hno, ha, hS⟩
       refine wp_seq (wp_seq (jX [0, 1, 2, 3] (jQ [(0, 63, iv (i : Int)), (1, 64, .slice sb.A sb.n sb.c), (2, 65, iv (sb.n : Int)), (3, 66, .bool (decide ((i : Int) < (sb.n : Int))))] ha fun a ha => ?_)));refine jZ (jJ ?_)
       by_cases c31 : (i : Int) < (sb.n : Int)
       ·
        have hil : i < b.length := by omega
        obtain ⟨z, hz⟩ : ∃ z, b[i]? = some z := ⟨_, List.getElem?_eq_getElem hil⟩;refine jU ha rfl (decide_eq_true c31) ?_;refine wp_skip (jJ (wp_seq (wp_block (wp_seq (jX [0, 1, 2, 3, 4, 5, 6, 7, 8, 9, 10, 11, 12, 13, 14, 15] (jQ [(0, 69, .slice sb.A sb.n sb.c), (1, 70, iv (i : Int))] ha fun a ha => ?_))))));refine xQ (.pointer (some ⟨bk sb, of_ sb + i * 3, none⟩)) ha (xY (el := 72) (sz := 3) (j := i) ha (yJ (t := 70) (x := 69) (y := 70) (d := 71)) rfl rfl (by kernel_rfl) (by kernel_rfl) (RdE.at_ (hrb.sat hS) _ _ hz).1 (rfl) (by rw [((hrb.sat hS)).len]; exact (List.getElem?_eq_some_iff.1 hz).1)) fun a ha => ?_;refine jQ [(3, 72, .pointer (some ⟨bk sb, of_ sb + i * 3, none⟩))] ha fun a ha => ?_;refine xQ (iv z.f0) ha (xZ ha (xH (t := 3) (x := 72) (d := 73) (ty := 3)) rfl (by kernel_rfl) (fun w' hw => by rw [hw]; exact (RdE.at_ (hrb.sat hS) _ _ hz).2 0 _ rfl)) fun a ha => ?_;refine jQ [(5, 74, .bool (decide (z.f0 = 11))), (6, 75, .bool (decide (z.f0 = 11)))] ha fun a ha => ?_
        by_cases c32 : z.f0 = 11
        ·
         replace ha := ha.turn 74 (.bool true) rfl (congrArg Value.bool (decide_eq_true c32));replace ha := ha.turn 75 (.bool true) rfl (congrArg Value.bool (decide_eq_true c32));refine jQ [(7, 76, .slice sb.A sb.n sb.c), (8, 77, iv (i : Int))] ha fun a ha => ?_;refine xQ (.pointer (some ⟨bk sb, of_ sb + i * 3, none⟩)) ha (xY (el := 72) (sz := 3) (j := i) ha (AtG.here (gd := 75) ⟨(by kernel_rfl : ((jV Try.f16 10)[9]?).map spec = some ((Op.indexAddr 70 (Operand.tmp 76) (Operand.tmp 77)), some 78, 0, some (6, true))), by kernel_rfl⟩ ha rfl) rfl rfl (by kernel_rfl) (by kernel_rfl) (RdE.at_ (hrb.sat hS) _ _ hz).1 (rfl) (by rw [((hrb.sat hS)).len]; exact (List.getElem?_eq_some_iff.1 hz).1)) fun a ha => ?_;refine jQ [(10, 79, .pointer (some ⟨bk sb, of_ sb + i * 3 + 1, none⟩))] ha fun a ha => ?_;refine xQ (iv z.f1) ha (xZ ha (AtG.here (gd := 75) ⟨(by kernel_rfl : ((jV Try.f16 10)[11]?).map spec = some ((Op.load 3 (Operand.tmp 79)), some 80, 3, some (6, true))), by kernel_rfl⟩ ha rfl) rfl (by kernel_rfl) (fun w' hw => by rw [hw]; exact (RdE.at_ (hrb.sat hS) _ _ hz).2 1 _ rfl)) fun a ha => ?_;refine jQ [(12, 81, iv x2)] ha fun a ha => ?_;refine xW 82 (x2 + 1) ha fun a ha => ?_;refine jQ [(14, 83, .bool (decide (z.f1 = (x2 + 1)))), (15, 84, .bool (decide (z.f1 = (x2 + 1))))] ha fun a ha => ?_;refine jZ (jJ ?_)
         by_cases c33 : z.f1 = (x2 + 1)
         ·
          refine jU ha rfl (decide_eq_true c33) ?_;refine wp_seq (jX [0, 1] (jQ [(0, 6, .bool false), (1, 7, .bool true)] ha fun a ha => ?_));refine jZ (jJ (wp_ret (in_r (qJ (qJ (in_r (qJ (qK ha (by kernel_rfl) (jG (t := 6) ha rfl) (jG (t := 7) ha rfl) ?_))))))));have hE : (exB x y && !jumpB b x2) = false := by have hjb : b.any (jmpB x2) = true := anyS_yes hz (by unfold jmpB; simp [c32, c33]); unfold exB jumpB sharB2; simp only [c16, c19, c20, c21, c24, c27, c30, c31, c32, c33, hjb, ← free_dist, eq_self, decide_true, decide_false, Bool.true_and, Bool.and_true, Bool.false_and, Bool.and_false, Bool.not_true, Bool.not_false, Bool.and_self]
          rw [canP_yes c5 hb hx hy, hE];exact ⟨rfl, Sat.rest [] hS⟩
         refine jK ha rfl (decide_eq_false c33) ?_;refine wp_skip (in_n (jJ (jX [0, 1, 2] (jQ [(0, 67, iv (i : Int))] ha fun a ha => ?_))));refine xW 68 ((i : Int) + 1) ha fun a ha => ?_;refine jQ [(2, 11, iv ((i : Int) + 1))] ha fun a ha => ?_;refine jZ (jJ ?_);replace hS : Sat w0 w ([]) := hS;have hjm : jmpB x2 z = false := by unfold jmpB; simp [c32, c33]
         exact ⟨_, by omega, i + 1, rfl, by omega, anyS_next hz hno hjm, ha.keeps [2, 6, 7, 8, 11] _ rfl, hS⟩
        replace ha := ha.turn 74 (.bool false) rfl (congrArg Value.bool (decide_eq_false c32));replace ha := ha.turn 75 (.bool false) rfl (congrArg Value.bool (decide_eq_false c32));refine jQ [(7, 76, undef), (8, 77, undef), (9, 78, undef), (10, 79, undef), (11, 80, undef), (12, 81, undef), (13, 82, undef), (14, 83, undef), (15, 84, .bool false)] ha fun a ha => ?_;refine jZ (jJ ?_);refine jK ha rfl rfl ?_;refine wp_skip (in_n (jJ (jX [0, 1, 2] (jQ [(0, 67, iv (i : Int))] ha fun a ha => ?_))));refine xW 68 ((i : Int) + 1) ha fun a ha => ?_;refine jQ [(2, 11, iv ((i : Int) + 1))] ha fun a ha => ?_;refine jZ (jJ ?_);replace hS : Sat w0 w ([]) := hS;have hjm : jmpB x2 z = false := by unfold jmpB; simp [c32]
        exact ⟨_, by omega, i + 1, rfl, by omega, anyS_next hz hno hjm, ha.keeps [2, 6, 7, 8, 11] _ rfl, hS⟩
       refine jK ha rfl (decide_eq_false c31) ?_;refine wp_exit (qH (qH (in_x (jJ (wp_seq (jX [0, 1] (jQ [(0, 6, .bool true), (1, 7, .bool true)] ha fun a ha => ?_)))))));refine jZ (jJ (wp_ret (qK ha (by kernel_rfl) (jG (t := 6) ha rfl) (jG (t := 7) ha rfl) ?_)));have hE : (exB x y && !jumpB b x2) = true := by have hjb : b.any (jmpB x2) = false := anyS_no (fun j z hj => hno j z (by omega)); unfold exB jumpB sharB2; simp only [c16, c19, c20, c21, c24, c27, c30, c31, hjb, ← free_dist, eq_self, decide_true, decide_false, Bool.true_and, Bool.and_true, Bool.false_and, Bool.and_false, Bool.not_true, Bool.not_false, Bool.and_self]
       rw [canP_yes c5 hb hx hy, hE];exact ⟨rfl, Sat.rest [] hS⟩
      refine jU ha rfl (qV c30) ?_;refine wp_seq (jX [0, 1] (jQ [(0, 6, .bool false), (1, 7, .bool true)] ha fun a ha => ?_));refine jZ (jJ (wp_ret (qJ (qK ha (by kernel_rfl) (jG (t := 6) ha rfl) (jG (t := 7) ha rfl) ?_))));have hE : (exB x y && !jumpB b x2) = false := by unfold exB jumpB sharB2; simp only [c16, c19, c20, c21, c24, c27, c30, ← free_dist, eq_self, decide_true, decide_false, Bool.true_and, Bool.and_true, Bool.false_and, Bool.and_false, Bool.not_true, Bool.not_false, Bool.and_self]
      rw [canP_yes c5 hb hx hy, hE];exact ⟨rfl, Sat.rest [_, _, _] hS⟩
     replace ha := ha.turn 51 (.bool false) rfl (congrArg Value.bool c24);replace ha := ha.turn 52 (.bool false) rfl (congrArg Value.bool c24);refine jQ [(22, 53, undef), (23, 54, undef), (24, 55, .bool false), (25, 56, .bool false), (26, 57, .bool false)] ha fun a ha => ?_;refine xX 58 ha (hS.blk 1 rfl) fun a ha => ?_;refine xX 59 ha (hS.blk 0 rfl) fun a ha => ?_;refine jH (qY 60 (vs := [.agg #[iv x.f0, iv x.f1, iv x.f2], .agg #[iv y.f0, iv y.f1, iv y.f2]]) ha (freeQ_sat (x := x) (y := y) hS) fun v34 w a hp35 ha => ?_);obtain ⟨rfl, hS⟩ := hp35;refine jQ [(30, 61, .bool (!((freeB x y)))), (31, 62, .bool (!((freeB x y))))] ha fun a ha => ?_;refine jZ ?_;replace ha := ha.as [(2, iv x2), (6, .bool false), (7, .bool false), (8, .slice sb.A sb.n sb.c), (62, .bool (!((freeB x y))))] rfl;refine jJ ?_
     rcases Bool.eq_false_or_eq_true (freeB x y) with c36 | c36
     ·
      refine jK ha rfl (qZ c36) ?_;refine wp_skip (jJ (wp_seq (wp_seq (jX [0] (jQ [(0, 11, iv 0)] ha fun a ha => ?_)))));refine jZ (jJ (wp_block ?_));replace hS := hS.pickN 3 [];refine wp_loop_ghost (fun n_ a_ w_ => ∃ (i : Nat), n_ = b.length - i ∧ (i ≤ b.length) ∧ (∀ (j : Nat) z, j < i → b[j]? = some z → jmpB x2 z = false) ∧ Has 85 [(2, iv x2), (6, .bool false), (7, .bool false), (8, .slice sb.A sb.n sb.c), (11, iv (i : Int))] a_ ∧ Sat w0 w_ ([])) _ ⟨0, rfl, Nat.zero_le _, (fun j z hj => by omega), ha.keeps [2, 6, 7, 8, 11] _ rfl, hS⟩ ?_
      rintro n_ a w ⟨i, rfl, hi, hno, ha, hS⟩
      refine wp_seq (wp_seq (jX [0, 1, 2, 3] (jQ [(0, 63, iv (i : Int)), (1, 64, .slice sb.A sb.n sb.c), (2, 65, iv (sb.n : Int)), (3, 66, .bool (decide ((i : Int) < (sb.n : Int))))] ha fun a ha => ?_)));refine jZ (jJ ?_)
      by_cases c37 : (i : Int) < (sb.n : Int)
      ·
       have hil : i < b.length := by omega
       obtain ⟨z, hz⟩ : ∃ z, b[i]? = some z := ⟨_, List.getElem?_eq_getElem hil⟩;refine jU ha rfl (decide_eq_true c37) ?_;refine wp_skip (jJ (wp_seq (wp_block (wp_seq (jX [0, 1, 2, 3, 4, 5, 6, 7, 8, 9, 10, 11, 12, 13, 14, 15] (jQ [(0, 69, .slice sb.A sb.n sb.c), (1, 70, iv (i : Int))] ha fun a ha => ?_))))));refine xQ (.pointer (some ⟨bk sb, of_ sb + i * 3, none⟩)) ha (xY (el := 72) (sz := 3) (j := i) ha (yJ (t := 70) (x := 69) (y := 70) (d := 71)) rfl rfl (by kernel_rfl) (by kernel_rfl) (RdE.at_ (hrb.sat hS) _ _ hz).1 (rfl) (by rw [((hrb.sat hS)).len]; exact (List.getElem?_eq_some_iff.1 hz).1)) fun a ha => ?_;refine jQ [(3, 72, .pointer (some ⟨bk sb, of_ sb + i * 3, none⟩))] ha fun a ha => ?_;refine xQ (iv z.f0) ha (xZ ha (xH (t := 3) (x := 72) (d := 73) (ty := 3)) rfl (by kernel_rfl) (fun w' hw => by rw [hw]; exact (RdE.at_ (hrb.sat hS) _ _ hz).2 0 _ rfl)) fun a ha => ?_;refine jQ [(5, 74, .bool (decide (z.f0 = 11))), (6, 75, .bool (decide (z.f0 = 11)))] ha fun a ha => ?_
       by_cases c38 : z.f0 = 11
       ·
        replace ha := ha.turn 74 (.bool true) rfl (congrArg Value.bool (decide_eq_true c38));replace ha := ha.turn 75 (.bool true) rfl (congrArg Value.bool (decide_eq_true c38));refine jQ [(7, 76, .slice sb.A sb.n sb.c), (8, 77, iv (i : Int))] ha fun a ha => ?_;refine xQ (.pointer (some ⟨bk sb, of_ sb + i * 3, none⟩)) ha (xY (el := 72) (sz := 3) (j := i) ha (AtG.here (gd := 75) ⟨(by kernel_rfl : ((jV Try.f16 10)[9]?).map spec = some ((Op.indexAddr 70 (Operand.tmp 76) (Operand.tmp 77)), some 78, 0, some (6, true))), by kernel_rfl⟩ ha rfl) rfl rfl (by kernel_rfl) (by kernel_rfl) (RdE.at_ (hrb.sat hS) _ _ hz).1 (rfl) (by rw [((hrb.sat hS)).len]; exact (List.getElem?_eq_some_iff.1 hz).1)) fun a ha => ?_;refine jQ [(10, 79, .pointer (some ⟨bk sb, of_ sb + i * 3 + 1, none⟩))] ha fun a ha => ?_;refine xQ (iv z.f1) ha (xZ ha (AtG.here (gd := 75) ⟨(by kernel_rfl : ((jV Try.f16 10)[11]?).map spec = some ((Op.load 3 (Operand.tmp 79)), some 80, 3, some (6, true))), by kernel_rfl⟩ ha rfl) rfl (by kernel_rfl) (fun w' hw => by rw [hw]; exact (RdE.at_ (hrb.sat hS) _ _ hz).2 1 _ rfl)) fun a ha => ?_;refine jQ [(12, 81, iv x2)] ha fun a ha => ?_;refine xW 82 (x2 + 1) ha fun a ha => ?_;refine jQ [(14, 83, .bool (decide (z.f1 = (x2 + 1)))), (15, 84, .bool (decide (z.f1 = (x2 + 1))))] ha fun a ha => ?_;refine jZ (jJ ?_)
        by_cases c39 : z.f1 = (x2 + 1)
        ·
         refine jU ha rfl (decide_eq_true c39) ?_;refine wp_seq (jX [0, 1] (jQ [(0, 6, .bool false), (1, 7, .bool true)] ha fun a ha => ?_));refine jZ (jJ (wp_ret (in_r (qJ (qJ (in_r (qJ (qK ha (by kernel_rfl) (jG (t := 6) ha rfl) (jG (t := 7) ha rfl) ?_))))))));have hE : (exB x y && !jumpB b x2) = false := by have hjb : b.any (jmpB x2) = true := anyS_yes hz (by unfold jmpB; simp [c38, c39]); unfold exB jumpB sharB2; simp only [c16, c19, c20, c21, c24, c36, c37, c38, c39, hjb, ← free_dist, eq_self, decide_true, decide_false, Bool.true_and, Bool.and_true, Bool.false_and, Bool.and_false, Bool.not_true, Bool.not_false, Bool.and_self]
         rw [canP_yes c5 hb hx hy, hE];exact ⟨rfl, Sat.rest [] hS⟩
        refine jK ha rfl (decide_eq_false c39) ?_;refine wp_skip (in_n (jJ (jX [0, 1, 2] (jQ [(0, 67, iv (i : Int))] ha fun a ha => ?_))));refine xW 68 ((i : Int) + 1) ha fun a ha => ?_;refine jQ [(2, 11, iv ((i : Int) + 1))] ha fun a ha => ?_;refine jZ (jJ ?_);replace hS : Sat w0 w ([]) := hS;have hjm : jmpB x2 z = false := by unfold jmpB; simp [c38, c39]
        exact ⟨_, by omega, i + 1, rfl, by omega, anyS_next hz hno hjm, ha.keeps [2, 6, 7, 8, 11] _ rfl, hS⟩
       replace ha := ha.turn 74 (.bool false) rfl (congrArg Value.bool (decide_eq_false c38));replace ha := ha.turn 75 (.bool false) rfl (congrArg Value.bool (decide_eq_false c38));refine jQ [(7, 76, undef), (8, 77, undef), (9, 78, undef), (10, 79, undef), (11, 80, undef), (12, 81, undef), (13, 82, undef), (14, 83, undef), (15, 84, .bool false)] ha fun a ha => ?_;refine jZ (jJ ?_);refine jK ha rfl rfl ?_;refine wp_skip (in_n (jJ (jX [0, 1, 2] (jQ [(0, 67, iv (i : Int))] ha fun a ha => ?_))));refine xW 68 ((i : Int) + 1) ha fun a ha => ?_;refine jQ [(2, 11, iv ((i : Int) + 1))] ha fun a ha => ?_;refine jZ (jJ ?_);replace hS : Sat w0 w ([]) := hS;have hjm : jmpB x2 z = false := by unfold jmpB; simp [c38]
       exact ⟨_, by omega, i + 1, rfl, by omega, anyS_next hz hno hjm, ha.keeps [2, 6, 7, 8, 11] _ rfl, hS⟩
      refine jK ha rfl (decide_eq_false c37) ?_;refine wp_exit (qH (qH (in_x (jJ (wp_seq (jX [0, 1] (jQ [(0, 6, .bool true), (1, 7, .bool true)] ha fun a ha => ?_)))))));refine jZ (jJ (wp_ret (qK ha (by kernel_rfl) (jG (t := 6) ha rfl) (jG (t := 7) ha rfl) ?_)));have hE : (exB x y && !jumpB b x2) = true := by have hjb : b.any (jmpB x2) = false := anyS_no (fun j z hj => hno j z (by omega)); unfold exB jumpB sharB2; simp only [c16, c19, c20, c21, c24, c36, c37, hjb, ← free_dist, eq_self, decide_true, decide_false, Bool.true_and, Bool.and_true, Bool.false_and, Bool.and_false, Bool.not_true, Bool.not_false, Bool.and_self]
      rw [canP_yes c5 hb hx hy, hE];exact ⟨rfl, Sat.rest [] hS⟩
     refine jU ha rfl (qV c36) ?_;refine wp_seq (jX [0, 1] (jQ [(0, 6, .bool false), (1, 7, .bool true)] ha fun a ha => ?_));refine jZ (jJ (wp_ret (qJ (qK ha (by kernel_rfl) (jG (t := 6) ha rfl) (jG (t := 7) ha rfl) ?_))));have hE : (exB x y && !jumpB b x2) = false := by unfold exB jumpB sharB2; simp only [c16, c19, c20, c21, c24, c36, ← free_dist, eq_self, decide_true, decide_false, Bool.true_and, Bool.and_true, Bool.false_and, Bool.and_false, Bool.not_true, Bool.not_false, Bool.and_self]
     rw [canP_yes c5 hb hx hy, hE];exact ⟨rfl, Sat.rest [_, _, _] hS⟩
    replace ha := ha.turn 42 (.bool false) rfl (congrArg Value.bool (decide_eq_false c20));replace ha := ha.turn 43 (.bool false) rfl (congrArg Value.bool (decide_eq_false c20));refine jQ [(13, 44, undef), (14, 45, undef), (15, 46, undef), (16, 47, .bool false), (17, 48, .bool false), (18, 49, .bool false)] ha fun a ha => ?_;refine xX 50 ha (hS.blk 1 rfl) fun a ha => ?_;refine jH (qY 51 (vs := [.agg #[iv x.f0, iv x.f1, iv x.f2]]) ha (shareQ_sat (x := x) hS) fun v40 w a hp41 ha => ?_);obtain ⟨rfl, hS⟩ := hp41;refine jQ [(21, 52, .bool (sharedB x))] ha fun a ha => ?_
    rcases Bool.eq_false_or_eq_true (sharedB x) with c42 | c42
    ·
     replace ha := ha.turn 51 (.bool true) rfl (congrArg Value.bool c42);replace ha := ha.turn 52 (.bool true) rfl (congrArg Value.bool c42);refine xX 53 ha (hS.blk 0 rfl) fun a ha => ?_;refine jH (qY 54 (vs := [.agg #[iv y.f0, iv y.f1, iv y.f2]]) ha (shareQ_sat (x := y) hS) fun v43 w a hp44 ha => ?_);obtain ⟨rfl, hS⟩ := hp44;refine jQ [(24, 55, .bool (sharedB y)), (25, 56, .bool (sharedB y)), (26, 57, .bool (sharedB y))] ha fun a ha => ?_
     rcases Bool.eq_false_or_eq_true (sharedB y) with c45 | c45
     ·
      replace ha := ha.turn 54 (.bool true) rfl (congrArg Value.bool c45);replace ha := ha.turn 55 (.bool true) rfl (congrArg Value.bool c45);replace ha := ha.turn 56 (.bool true) rfl (congrArg Value.bool c45);replace ha := ha.turn 57 (.bool true) rfl (congrArg Value.bool c45);refine jQ [(27, 58, undef), (28, 59, undef), (29, 60, undef), (30, 61, undef), (31, 62, .bool true)] ha fun a ha => ?_;refine jZ ?_;replace ha := ha.as [(2, iv x2), (6, .bool false), (7, .bool false), (8, .slice sb.A sb.n sb.c), (62, .bool true)] rfl;refine jJ ?_;refine jU ha rfl rfl ?_;refine wp_seq (jX [0, 1] (jQ [(0, 6, .bool false), (1, 7, .bool true)] ha fun a ha => ?_));refine jZ (jJ (wp_ret (qJ (qK ha (by kernel_rfl) (jG (t := 6) ha rfl) (jG (t := 7) ha rfl) ?_))));have hE : (exB x y && !jumpB b x2) = false := by unfold exB jumpB sharB2; simp only [c16, c19, c20, c42, c45, eq_self, decide_true, decide_false, Bool.true_and, Bool.and_true, Bool.false_and, Bool.and_false, Bool.not_true, Bool.not_false, Bool.and_self]
      rw [canP_yes c5 hb hx hy, hE];exact ⟨rfl, Sat.rest [_, _, _] hS⟩
     replace ha := ha.turn 54 (.bool false) rfl (congrArg Value.bool c45);replace ha := ha.turn 55 (.bool false) rfl (congrArg Value.bool c45);replace ha := ha.turn 56 (.bool false) rfl (congrArg Value.bool c45);replace ha := ha.turn 57 (.bool false) rfl (congrArg Value.bool c45);refine xX 58 ha (hS.blk 1 rfl) fun a ha => ?_;refine xX 59 ha (hS.blk 0 rfl) fun a ha => ?_;refine jH (qY 60 (vs := [.agg #[iv x.f0, iv x.f1, iv x.f2], .agg #[iv y.f0, iv y.f1, iv y.f2]]) ha (freeQ_sat (x := x) (y := y) hS) fun v46 w a hp47 ha => ?_);obtain ⟨rfl, hS⟩ := hp47;refine jQ [(30, 61, .bool (!((freeB x y)))), (31, 62, .bool (!((freeB x y))))] ha fun a ha => ?_;refine jZ ?_;replace ha := ha.as [(2, iv x2), (6, .bool false), (7, .bool false), (8, .slice sb.A sb.n sb.c), (62, .bool (!((freeB x y))))] rfl;refine jJ ?_
     rcases Bool.eq_false_or_eq_true (freeB x y) with c48 | c48
     ·
      refine jK ha rfl (qZ c48) ?_;refine wp_skip (jJ (wp_seq (wp_seq (jX [0] (jQ [(0, 11, iv 0)] ha fun a ha => ?_)))));refine jZ (jJ (wp_block ?_));replace hS := hS.pickN 3 [];refine wp_loop_ghost (fun n_ a_ w_ => ∃ (i : Nat), n_ = b.length - i ∧ (i ≤ b.length) ∧ (∀ (j : Nat) z, j < i → b[j]? = some z → jmpB x2 z = false) ∧ Has 85 [(2, iv x2), (6, .bool false), (7, .bool false), (8, .slice sb.A sb.n sb.c), (11, iv (i : Int))] a_ ∧ Sat w0 w_ ([])) _ ⟨0, rfl, Nat.zero_le _, (fun j z hj => by omega), ha.keeps [2, 6, 7, 8, 11] _ rfl, hS⟩ ?_
      rintro n_ a w ⟨i, rfl, hi, hno, ha, hS⟩
      refine wp_seq (wp_seq (jX [0, 1, 2, 3] (jQ [(0, 63, iv (i : Int)), (1, 64, .slice sb.A sb.n sb.c), (2, 65, iv (sb.n : Int)), (3, 66, .bool (decide ((i : Int) < (sb.n : Int))))] ha fun a ha => ?_)));refine jZ (jJ ?_)
      by_cases c49 : (i : Int) < (sb.n : Int)
      ·
       have hil : i < b.length := by omega
       obtain ⟨z, hz⟩ : ∃ z, b[i]? = some z := ⟨_, List.getElem?_eq_getElem hil⟩;refine jU ha rfl (decide_eq_true c49) ?_;refine wp_skip (jJ (wp_seq (wp_block (wp_seq (jX [0, 1, 2, 3, 4, 5, 6, 7, 8, 9, 10, 11, 12, 13, 14, 15] (jQ [(0, 69, .slice sb.A sb.n sb.c), (1, 70, iv (i : Int))] ha fun a ha => ?_))))));refine xQ (.pointer (some ⟨bk sb, of_ sb + i * 3, none⟩)) ha (xY (el := 72) (sz := 3) (j := i) ha (yJ (t := 70) (x := 69) (y := 70) (d := 71)) rfl rfl (by kernel_rfl) (by kernel_rfl) (RdE.at_ (hrb.sat hS) _ _ hz).1 (rfl) (by rw [((hrb.sat hS)).len]; exact (List.getElem?_eq_some_iff.1 hz).1)) fun a ha => ?_;refine jQ [(3, 72, .pointer (some ⟨bk sb, of_ sb + i * 3, none⟩))] ha fun a ha => ?_;refine xQ (iv z.f0) ha (xZ ha (xH (t := 3) (x := 72) (d := 73) (ty := 3)) rfl (by kernel_rfl) (fun w' hw => by rw [hw]; exact (RdE.at_ (hrb.sat hS) _ _ hz).2 0 _ rfl)) fun a ha => ?_;refine jQ [(5, 74, .bool (decide (z.f0 = 11))), (6, 75, .bool (decide (z.f0 = 11)))] ha fun a ha => ?_
       by_cases c50 : z.f0 = 11
       ·
        replace ha := ha.turn 74 (.bool true) rfl (congrArg Value.bool (decide_eq_true c50));replace ha := ha.turn 75 (.bool true) rfl (congrArg Value.bool (decide_eq_true c50));refine jQ [(7, 76, .slice sb.A sb.n sb.c), (8, 77, iv (i : Int))] ha fun a ha => ?_;refine xQ (.pointer (some ⟨bk sb, of_ sb + i * 3, none⟩)) ha (xY (el := 72) (sz := 3) (j := i) ha (AtG.here (gd := 75) ⟨(by kernel_rfl : ((jV Try.f16 10)[9]?).map spec = some ((Op.indexAddr 70 (Operand.tmp 76) (Operand.tmp 77)), some 78, 0, some (6, true))), by kernel_rfl⟩ ha rfl) rfl rfl (by kernel_rfl) (by kernel_rfl) (RdE.at_ (hrb.sat hS) _ _ hz).1 (rfl) (by rw [((hrb.sat hS)).len]; exact (List.getElem?_eq_some_iff.1 hz).1)) fun a ha => ?_;refine jQ [(10, 79, .pointer (some ⟨bk sb, of_ sb + i * 3 + 1, none⟩))] ha fun a ha => ?_;refine xQ (iv z.f1) ha (xZ ha (AtG.here (gd := 75) ⟨(by kernel_rfl : ((jV Try.f16 10)[11]?).map spec = some ((Op.load 3 (Operand.tmp 79)), some 80, 3, some (6, true))), by kernel_rfl⟩ ha rfl) rfl (by kernel_rfl) (fun w' hw => by rw [hw]; exact (RdE.at_ (hrb.sat hS) _ _ hz).2 1 _ rfl)) fun a ha => ?_;refine jQ [(12, 81, iv x2)] ha fun a ha => ?_;refine xW 82 (x2 + 1) ha fun a ha => ?_;refine jQ [(14, 83, .bool (decide (z.f1 = (x2 + 1)))), (15, 84, .bool (decide (z.f1 = (x2 + 1))))] ha fun a ha => ?_;refine jZ (jJ ?_)
        by_cases c51 : z.f1 = (x2 + 1)
        ·
         refine jU ha rfl (decide_eq_true c51) ?_;refine wp_seq (jX [0, 1] (jQ [(0, 6, .bool false), (1, 7, .bool true)] ha fun a ha => ?_));refine jZ (jJ (wp_ret (in_r (qJ (qJ (in_r (qJ (qK ha (by kernel_rfl) (jG (t := 6) ha rfl) (jG (t := 7) ha rfl) ?_))))))));have hE : (exB x y && !jumpB b x2) = false := by have hjb : b.any (jmpB x2) = true := anyS_yes hz (by unfold jmpB; simp [c50, c51]); unfold exB jumpB sharB2; simp only [c16, c19, c20, c42, c45, c48, c49, c50, c51, hjb, ← free_dist, eq_self, decide_true, decide_false, Bool.true_and, Bool.and_true, Bool.false_and, Bool.and_false, Bool.not_true, Bool.not_false, Bool.and_self]
         rw [canP_yes c5 hb hx hy, hE];exact ⟨rfl, Sat.rest [] hS⟩
        refine jK ha rfl (decide_eq_false c51) ?_;refine wp_skip (in_n (jJ (jX [0, 1, 2] (jQ [(0, 67, iv (i : Int))] ha fun a ha => ?_))));refine xW 68 ((i : Int) + 1) ha fun a ha => ?_;refine jQ [(2, 11, iv ((i : Int) + 1))] ha fun a ha => ?_;refine jZ (jJ ?_);replace hS : Sat w0 w ([]) := hS;have hjm : jmpB x2 z = false := by unfold jmpB; simp [c50, c51]
        exact ⟨_, by omega, i + 1, rfl, by omega, anyS_next hz hno hjm, ha.keeps [2, 6, 7, 8, 11] _ rfl, hS⟩
       replace ha := ha.turn 74 (.bool false) rfl (congrArg Value.bool (decide_eq_false c50));replace ha := ha.turn 75 (.bool false) rfl (congrArg Value.bool (decide_eq_false c50));refine jQ [(7, 76, undef), (8, 77, undef), (9, 78, undef), (10, 79, undef), (11, 80, undef), (12, 81, undef), (13, 82, undef), (14, 83, undef), (15, 84, .bool false)] ha fun a ha => ?_;refine jZ (jJ ?_);refine jK ha rfl rfl ?_;refine wp_skip (in_n (jJ (jX [0, 1, 2] (jQ [(0, 67, iv (i : Int))] ha fun a ha => ?_))));refine xW 68 ((i : Int) + 1) ha fun a ha => ?_;refine jQ [(2, 11, iv ((i : Int) + 1))] ha fun a ha => ?_;refine jZ (jJ ?_);replace hS : Sat w0 w ([]) := hS;have hjm : jmpB x2 z = false := by unfold jmpB; simp [c50]
       exact ⟨_, by omega, i + 1, rfl, by omega, anyS_next hz hno hjm, ha.keeps [2, 6, 7, 8, 11] _ rfl, hS⟩
      refine jK ha rfl (decide_eq_false c49) ?_;refine wp_exit (qH (qH (in_x (jJ (wp_seq (jX [0, 1] (jQ [(0, 6, .bool true), (1, 7, .bool true)] ha fun a ha => ?_)))))));refine jZ (jJ (wp_ret (qK ha (by kernel_rfl) (jG (t := 6) ha rfl) (jG (t := 7) ha rfl) ?_)));have hE : (exB x y && !jumpB b x2) = true := by have hjb : b.any (jmpB x2) = false := anyS_no (fun j z hj => hno j z (by omega)); unfold exB jumpB sharB2; simp only [c16, c19, c20, c42, c45, c48, c49, hjb, ← free_dist, eq_self, decide_true, decide_false, Bool.true_and, Bool.and_true, Bool.false_and, Bool.and_false, Bool.not_true, Bool.not_false, Bool.and_self]
      rw [canP_yes c5 hb hx hy, hE];exact ⟨rfl, Sat.rest [] hS⟩
     refine jU ha rfl (qV c48) ?_;refine wp_seq (jX [0, 1] (jQ [(0, 6, .bool false), (1, 7, .bool true)] ha fun a ha => ?_));refine jZ (jJ (wp_ret (qJ (qK ha (by kernel_rfl) (jG (t := 6) ha rfl) (jG (t := 7) ha rfl) ?_))));have hE : (exB x y && !jumpB b x2) = false := by unfold exB jumpB sharB2; simp only [c16, c19, c20, c42, c45, c48, ← free_dist, eq_self, decide_true, decide_false, Bool.true_and, Bool.and_true, Bool.false_and, Bool.and_false, Bool.not_true, Bool.not_false, Bool.and_self]
     rw [canP_yes c5 hb hx hy, hE];exact ⟨rfl, Sat.rest [_, _, _] hS⟩
    replace ha := ha.turn 51 (.bool false) rfl (congrArg Value.bool c42);replace ha := ha.turn 52 (.bool false) rfl (congrArg Value.bool c42);refine jQ [(22, 53, undef), (23, 54, undef), (24, 55, .bool false), (25, 56, .bool false), (26, 57, .bool false)] ha fun a ha => ?_;refine xX 58 ha (hS.blk 1 rfl) fun a ha => ?_;refine xX 59 ha (hS.blk 0 rfl) fun a ha => ?_;refine jH (qY 60 (vs := [.agg #[iv x.f0, iv x.f1, iv x.f2], .agg #[iv y.f0, iv y.f1, iv y.f2]]) ha (freeQ_sat (x := x) (y := y) hS) fun v52 w a hp53 ha => ?_);obtain ⟨rfl, hS⟩ := hp53;refine jQ [(30, 61, .bool (!((freeB x y)))), (31, 62, .bool (!((freeB x y))))] ha fun a ha => ?_;refine jZ ?_;replace ha := ha.as [(2, iv x2), (6, .bool false), (7, .bool false), (8, .slice sb.A sb.n sb.c), (62, .bool (!((freeB x y))))] rfl;refine jJ ?_
    rcases Bool.eq_false_or_eq_true (freeB x y) with c54 | c54
    ·
     refine jK ha rfl (qZ c54) ?_;refine wp_skip (jJ (wp_seq (wp_seq (jX [0] (jQ [(0, 11, iv 0)] ha fun a ha => ?_)))));refine jZ (jJ (wp_block ?_));replace hS := hS.pickN 3 [];refine wp_loop_ghost (fun n_ a_ w_ => ∃ (i : Nat), n_ = b.length - i ∧ (i ≤ b.length) ∧ (∀ (j : Nat) z, j < i → b[j]? = some z → jmpB x2 z = false) ∧ Has 85 [(2, iv x2), (6, .bool false), (7, .bool false), (8, .slice sb.A sb.n sb.c), (11, iv (i : Int))] a_ ∧ Sat w0 w_ ([])) _ ⟨0, rfl, Nat.zero_le _, (fun j z hj => by omega), ha.keeps [2, 6, 7, 8, 11] _ rfl, hS⟩ ?_
     rintro n_ a w ⟨i, rfl, hi, hno, ha, hS⟩
     refine wp_seq (wp_seq (jX [0, 1, 2, 3] (jQ [(0, 63, iv (i : Int)), (1, 64, .slice sb.A sb.n sb.c), (2, 65, iv (sb.n : Int)), (3, 66, .bool (decide ((i : Int) < (sb.n : Int))))] ha fun a ha => ?_)));refine jZ (jJ ?_)
     by_cases c55 : (i : Int) < (sb.n : Int)
     ·
      have hil : i < b.length := by omega
      obtain ⟨z, hz⟩ : ∃ z, b[i]? = some z := ⟨_, List.getElem?_eq_getElem hil⟩;refine jU ha rfl (decide_eq_true c55) ?_;refine wp_skip (jJ (wp_seq (wp_block (wp_seq (jX [0, 1, 2, 3, 4, 5, 6, 7, 8, 9, 10, 11, 12, 13, 14, 15] (jQ [(0, 69, .slice sb.A sb.n sb.c), (1, 70, iv (i : Int))] ha fun a ha => ?_))))));refine xQ (.pointer (some ⟨bk sb, of_ sb + i * 3, none⟩)) ha (xY (el := 72) (sz := 3) (j := i) ha (yJ (t := 70) (x := 69) (y := 70) (d := 71)) rfl rfl (by kernel_rfl) (by kernel_rfl) (RdE.at_ (hrb.sat hS) _ _ hz).1 (rfl) (by rw [((hrb.sat hS)).len]; exact (List.getElem?_eq_some_iff.1 hz).1)) fun a ha => ?_;refine jQ [(3, 72, .pointer (some ⟨bk sb, of_ sb + i * 3, none⟩))] ha fun a ha => ?_;refine xQ (iv z.f0) ha (xZ ha (xH (t := 3) (x := 72) (d := 73) (ty := 3)) rfl (by kernel_rfl) (fun w' hw => by rw [hw]; exact (RdE.at_ (hrb.sat hS) _ _ hz).2 0 _ rfl)) fun a ha => ?_;refine jQ [(5, 74, .bool (decide (z.f0 = 11))), (6, 75, .bool (decide (z.f0 = 11)))] ha fun a ha => ?_
      by_cases c56 : z.f0 = 11
      ·
       replace ha := ha.turn 74 (.bool true) rfl (congrArg Value.bool (decide_eq_true c56));replace ha := ha.turn 75 (.bool true) rfl (congrArg Value.bool (decide_eq_true c56));refine jQ [(7, 76, .slice sb.A sb.n sb.c), (8, 77, iv (i : Int))] ha fun a ha => ?_;refine xQ (.pointer (some ⟨bk sb, of_ sb + i * 3, none⟩)) ha (xY (el := 72) (sz := 3) (j := i) ha (AtG.here (gd := 75) ⟨(by kernel_rfl : ((jV Try.f16 10)[9]?).map spec = some ((Op.indexAddr 70 (Operand.tmp 76) (Operand.tmp 77)), some 78, 0, some (6, true))), by kernel_rfl⟩ ha rfl) rfl rfl (by kernel_rfl) (by kernel_rfl) (RdE.at_ (hrb.sat hS) _ _ hz).1 (rfl) (by rw [((hrb.sat hS)).len]; exact (List.getElem?_eq_some_iff.1 hz).1)) fun a ha => ?_;refine jQ [(10, 79, .pointer (some ⟨bk sb, of_ sb + i * 3 + 1, none⟩))] ha fun a ha => ?_;refine xQ (iv z.f1) ha (xZ ha (AtG.here (gd := 75) ⟨(by kernel_rfl : ((jV Try.f16 10)[11]?).map spec = some ((Op.load 3 (Operand.tmp 79)), some 80, 3, some (6, true))), by kernel_rfl⟩ ha rfl) rfl (by kernel_rfl) (fun w' hw => by rw [hw]; exact (RdE.at_ (hrb.sat hS) _ _ hz).2 1 _ rfl)) fun a ha => ?_;refine jQ [(12, 81, iv x2)] ha fun a ha => ?_;refine xW 82 (x2 + 1) ha fun a ha => ?_;refine jQ [(14, 83, .bool (decide (z.f1 = (x2 + 1)))), (15, 84, .bool (decide (z.f1 = (x2 + 1))))] ha fun a ha => ?_;refine jZ (jJ ?_)
       by_cases c57 : z.f1 = (x2 + 1)
       ·
        refine jU ha rfl (decide_eq_true c57) ?_;refine wp_seq (jX [0, 1] (jQ [(0, 6, .bool false), (1, 7, .bool true)] ha fun a ha => ?_));refine jZ (jJ (wp_ret (in_r (qJ (qJ (in_r (qJ (qK ha (by kernel_rfl) (jG (t := 6) ha rfl) (jG (t := 7) ha rfl) ?_))))))));have hE : (exB x y && !jumpB b x2) = false := by have hjb : b.any (jmpB x2) = true := anyS_yes hz (by unfold jmpB; simp [c56, c57]); unfold exB jumpB sharB2; simp only [c16, c19, c20, c42, c54, c55, c56, c57, hjb, ← free_dist, eq_self, decide_true, decide_false, Bool.true_and, Bool.and_true, Bool.false_and, Bool.and_false, Bool.not_true, Bool.not_false, Bool.and_self]
        rw [canP_yes c5 hb hx hy, hE];exact ⟨rfl, Sat.rest [] hS⟩
       refine jK ha rfl (decide_eq_false c57) ?_;refine wp_skip (in_n (jJ (jX [0, 1, 2] (jQ [(0, 67, iv (i : Int))] ha fun a ha => ?_))));refine xW 68 ((i : Int) + 1) ha fun a ha => ?_;refine jQ [(2, 11, iv ((i : Int) + 1))] ha fun a ha => ?_;refine jZ (jJ ?_);replace hS : Sat w0 w ([]) := hS;have hjm : jmpB x2 z = false := by unfold jmpB; simp [c56, c57]
       exact ⟨_, by omega, i + 1, rfl, by omega, anyS_next hz hno hjm, ha.keeps [2, 6, 7, 8, 11] _ rfl, hS⟩
      replace ha := ha.turn 74 (.bool false) rfl (congrArg Value.bool (decide_eq_false c56));replace ha := ha.turn 75 (.bool false) rfl (congrArg Value.bool (decide_eq_false c56));refine jQ [(7, 76, undef), (8, 77, undef), (9, 78, undef), (10, 79, undef), (11, 80, undef), (12, 81, undef), (13, 82, undef), (14, 83, undef), (15, 84, .bool false)] ha fun a ha => ?_;refine jZ (jJ ?_);refine jK ha rfl rfl ?_;refine wp_skip (in_n (jJ (jX [0, 1, 2] (jQ [(0, 67, iv (i : Int))] ha fun a ha => ?_))));refine xW 68 ((i : Int) + 1) ha fun a ha => ?_;refine jQ [(2, 11, iv ((i : Int) + 1))] ha fun a ha => ?_;refine jZ (jJ ?_);replace hS : Sat w0 w ([]) := hS;have hjm : jmpB x2 z = false := by unfold jmpB; simp [c56]
      exact ⟨_, by omega, i + 1, rfl, by omega, anyS_next hz hno hjm, ha.keeps [2, 6, 7, 8, 11] _ rfl, hS⟩
     refine jK ha rfl (decide_eq_false c55) ?_;refine wp_exit (qH (qH (in_x (jJ (wp_seq (jX [0, 1] (jQ [(0, 6, .bool true), (1, 7, .bool true)] ha fun a ha => ?_)))))));refine jZ (jJ (wp_ret (qK ha (by kernel_rfl) (jG (t := 6) ha rfl) (jG (t := 7) ha rfl) ?_)));have hE : (exB x y && !jumpB b x2) = true := by have hjb : b.any (jmpB x2) = false := anyS_no (fun j z hj => hno j z (by omega)); unfold exB jumpB sharB2; simp only [c16, c19, c20, c42, c54, c55, hjb, ← free_dist, eq_self, decide_true, decide_false, Bool.true_and, Bool.and_true, Bool.false_and, Bool.and_false, Bool.not_true, Bool.not_false, Bool.and_self]
     rw [canP_yes c5 hb hx hy, hE];exact ⟨rfl, Sat.rest [] hS⟩
    refine jU ha rfl (qV c54) ?_;refine wp_seq (jX [0, 1] (jQ [(0, 6, .bool false), (1, 7, .bool true)] ha fun a ha => ?_));refine jZ (jJ (wp_ret (qJ (qK ha (by kernel_rfl) (jG (t := 6) ha rfl) (jG (t := 7) ha rfl) ?_))));have hE : (exB x y && !jumpB b x2) = false := by unfold exB jumpB sharB2; simp only [c16, c19, c20, c42, c54, ← free_dist, eq_self, decide_true, decide_false, Bool.true_and, Bool.and_true, Bool.false_and, Bool.and_false, Bool.not_true, Bool.not_false, Bool.and_self]
    rw [canP_yes c5 hb hx hy, hE];exact ⟨rfl, Sat.rest [_, _, _] hS⟩
   replace ha := ha.turn 36 (.bool false) rfl (congrArg Value.bool c19);replace ha := ha.turn 37 (.bool true) rfl (congrArg Value.bool (qV c19));replace ha := ha.turn 38 (.bool true) rfl (congrArg Value.bool (qV c19));replace ha := ha.turn 39 (.bool true) rfl (congrArg Value.bool (qV c19));refine jQ [(9, 40, undef), (10, 41, undef), (11, 42, undef), (12, 43, undef), (13, 44, undef), (14, 45, undef), (15, 46, undef), (16, 47, undef), (17, 48, .bool true), (18, 49, .bool true), (19, 50, undef), (20, 51, undef), (21, 52, undef), (22, 53, undef), (23, 54, undef), (24, 55, undef), (25, 56, .bool true), (26, 57, .bool true), (27, 58, undef), (28, 59, undef), (29, 60, undef), (30, 61, undef), (31, 62, .bool true)] ha fun a ha => ?_;refine jZ ?_;replace ha := ha.as [(2, iv x2), (6, .bool false), (7, .bool false), (8, .slice sb.A sb.n sb.c), (62, .bool true)] rfl;refine jJ ?_;refine jU ha rfl rfl ?_;refine wp_seq (jX [0, 1] (jQ [(0, 6, .bool false), (1, 7, .bool true)] ha fun a ha => ?_));refine jZ (jJ (wp_ret (qJ (qK ha (by kernel_rfl) (jG (t := 6) ha rfl) (jG (t := 7) ha rfl) ?_))));have hE : (exB x y && !jumpB b x2) = false := by unfold exB jumpB; simp only [c16, c19, eq_self, decide_true, decide_false, Bool.true_and, Bool.and_true, Bool.false_and, Bool.and_false, Bool.not_true, Bool.not_false, Bool.and_self]
   rw [canP_yes c5 hb hx hy, hE];exact ⟨rfl, Sat.rest [_, _, _] hS⟩
  replace ha := ha.turn 32 (.bool false) rfl (congrArg Value.bool c16)
  replace ha := ha.turn 33 (.bool true) rfl (congrArg Value.bool (qV c16))
  replace ha := ha.turn 34 (.bool true) rfl (congrArg Value.bool (qV c16))
  refine jQ [(4, 35, undef), (5, 36, undef), (6, 37, undef), (7, 38, .bool true), (8, 39, .bool true), (9, 40, undef), (10, 41, undef), (11, 42, undef), (12, 43, undef), (13, 44, undef), (14, 45, undef), (15, 46, undef), (16, 47, undef), (17, 48, .bool true), (18, 49, .bool true), (19, 50, undef), (20, 51, undef), (21, 52, undef), (22, 53, undef), (23, 54, undef), (24, 55, undef), (25, 56, .bool true), (26, 57, .bool true), (27, 58, undef), (28, 59, undef), (29, 60, undef), (30, 61, undef), (31, 62, .bool true)] ha fun a ha => ?_
  refine jZ ?_
  replace ha := ha.as [(2, iv x2), (6, .bool false), (7, .bool false), (8, .slice sb.A sb.n sb.c), (62, .bool true)] rfl
  refine jJ ?_
  refine jU ha rfl rfl ?_
  refine wp_seq (jX [0, 1] (jQ [(0, 6, .bool false), (1, 7, .bool true)] ha fun a ha => ?_))
  refine jZ (jJ (wp_ret (qJ (qK ha (by kernel_rfl) (jG (t := 6) ha rfl) (jG (t := 7) ha rfl) ?_))))
  have hE : (exB x y && !jumpB b x2) = false := by unfold exB jumpB; simp only [c16, eq_self, decide_true, decide_false, Bool.true_and, Bool.and_true, Bool.false_and, Bool.and_false, Bool.not_true, Bool.not_false, Bool.and_self]
  rw [canP_yes c5 hb hx hy, hE]
  exact ⟨rfl, Sat.rest [_, _, _] hS⟩
 refine jU ha rfl (qV c5) ?_
 refine wp_seq (jX [0, 1] (jQ [(0, 6, .bool false), (1, 7, .bool false)] ha fun a ha => ?_))
 refine jZ (jJ (wp_ret (qJ (qK ha (by kernel_rfl) (jG (t := 6) ha rfl) (jG (t := 7) ha rfl) ?_))))
 rw [canP_no c5]
 exact ⟨rfl, Sat.rest [_] hS⟩
theorem spec_CanExchange_sat {w0 w : World} {Rs : List Asn} {s : Sl} {l : List (List ST)} {f x2 : Int} (hS : Sat w0 w Rs) (hr : RdP w s l) (hf : Fits l) :
  Calls Try.prog 16 #[.agg #[.slice s.A s.n s.c], iv f, iv x2] w (Ret fun r w' => r = .tuple #[.bool (canP l f x2).1, .bool (canP l f x2).2] ∧ Sat w0 w' Rs) :=
 (spec_CanExchange_sat0 hr hf).mono fun e w' h => by
  cases e with
  | returned r => exact ⟨h.1, hS.comp h.2⟩
  | _ => exact h.elim
theorem code3 : Try.f3.body = some (Code.seq (cr Try.f3 0 false) (Code.seq (cr Try.f3 1 false) (Code.seq (cr Try.f3 2 false) (Code.seq (Code.seq (cr Try.f3 3 false) (Code.cond (Operand.tmp 17) (Code.seq (cr Try.f3 4 false) Code.ret) Code.skip)) (Code.seq (cr Try.f3 5 false) (Code.seq (cr Try.f3 6 false) (Code.seq (cr Try.f3 7 false) (Code.seq (Code.seq (cr Try.f3 8 false) (Code.cond (Operand.tmp 42) (Code.seq (cr Try.f3 9 false) Code.ret) Code.skip)) (Code.seq (Code.seq (cr Try.f3 10 true) (Code.cond (Operand.tmp 47) (Code.seq (cr Try.f3 11 false) Code.ret) Code.skip)) (Code.seq (cr Try.f3 12 false) Code.ret)))))))))) := by kernel_rfl
theorem law3_walk (w0 : World) (s0 : Sl) (l0 : List (List LT)) (f : Int) (x2 : Int) (hr0 : RdA w0 s0 l0) :
  Calls Try.prog 3 #[.agg #[.slice s0.A s0.n s0.c], iv f, iv x2] w0 (Ret fun r w' => r = .bool true ∧ Below w0.heap.size w0 w') := by
 have hS : Sat w0 w0 [] := Sat.start w0
 refine enter (n := 48) Try.func3 code3 (by kernel_rfl) (Nat.le_of_ble_eq_true rfl) (fun a ha => ?_)
 replace ha : Has 48 [(0, .agg #[.slice s0.A s0.n s0.c]), (1, iv f), (2, iv x2)] a := ha
 refine wp_seq (jX [0, 1] (jH (qX 3 [.slice s0.A s0.n s0.c] 24 (ptr · 0) ha hS fun b1 w a hb2 hS ha => ?_)))
 refine jQ [(1, 6, .bool false)] ha fun a ha => ?_
 refine jZ (jJ (wp_seq (jX [0] (jQ [(0, 7, iv 1048576)] ha fun a ha => ?_))))
 refine jZ (jJ (wp_seq (jX [0, 1, 2, 3] (xX 13 ha (hS.blk 0 rfl) fun a ha => ?_))))
 refine jQ [(1, 14, iv 1048576)] ha fun a ha => ?_
 refine jH (qY 15 (vs := [.agg #[.slice s0.A s0.n s0.c], iv 1048576]) ha (szProgram_sat hS (hr0.sat hS) (by omega) (by omega)) fun v3 w a hp4 ha => ?_)
 obtain ⟨rfl, hS⟩ := hp4
 refine jQ [(3, 7, iv (szP l0 1048576))] ha fun a ha => ?_
 refine jZ (jJ (wp_seq (wp_seq (jX [0, 1] (jQ [(0, 16, iv (szP l0 1048576)), (1, 17, .bool (decide ((szP l0 1048576) < 0)))] ha fun a ha => ?_)))))
 refine jZ (jJ ?_)
 by_cases c5 : (szP l0 1048576) < 0
 ·
  refine jU ha rfl (decide_eq_true c5) ?_
  refine wp_seq (jX [0] (jQ [(0, 6, .bool true)] ha fun a ha => ?_))
  refine jZ (jJ (wp_ret (qJ (jW ha (by kernel_rfl) (jG (t := 6) ha rfl) ?_))))
  exact ⟨rfl, hS.below⟩
 have hf0 : Fits l0 := by have h8 : 0 ≤ szP l0 1048576 := (by omega); have h9 := szP_ok l0 1048576 h8; exact ⟨by omega, by omega⟩
 have htp0 := (toP_fits hf0).tot
 have hz0 := szP_ok l0 1048576 (by omega)
 refine jK ha rfl (decide_eq_false c5) ?_
 refine wp_skip (jJ (wp_seq (jX [0, 1, 2, 3, 4, 5, 6, 7, 8, 9] (xX 19 ha (hS.blk 0 rfl) fun a ha => ?_))))
 refine jH (qY 20 (vs := [.agg #[.slice s0.A s0.n s0.c]]) ha (toProgram_sat hS (hr0.sat hS) hf0) fun v6 w a hp7 ha => ?_)
 obtain ⟨sp1, rfl, hS⟩ := hp7
 refine jQ [(2, 21, iv f), (3, 22, iv x2)] ha fun a ha => ?_
 refine jH (qY 23 (vs := [.agg #[.slice sp1.A sp1.n sp1.c], iv f, iv x2]) ha (spec_CanExchange_sat hS (hS.rdS 0 rfl) (toP_fits hf0)) fun v8 w a hp9 ha => ?_)
 obtain ⟨rfl, hS⟩ := hp9
 refine jQ [(5, 18, .tuple #[.bool ((canP (toP l0) f x2).1), .bool ((canP (toP l0) f x2).2)]), (6, 24, .bool ((canP (toP l0) f x2).1)), (7, 25, .bool ((canP (toP l0) f x2).2)), (8, 8, .bool ((canP (toP l0) f x2).1)), (9, 9, .bool ((canP (toP l0) f x2).2))] ha fun a ha => ?_
 refine jZ (jJ (wp_seq (jX [0, 1, 2, 3] (xX 26 ha (hS.blk 1 rfl) fun a ha => ?_))))
 refine jH (qY 27 (vs := [.agg #[.slice s0.A s0.n s0.c]]) ha (toProgram_sat hS (hr0.sat hS) hf0) fun v10 w a hp11 ha => ?_)
 obtain ⟨sp2, rfl, hS⟩ := hp11
 refine jH (qX 10 [.slice none 0 0] 30 (ptr · 0) ha hS fun b12 w a hb13 hS ha => ?_)
 refine jH (o_sa 0 ha (zJ (t := 30) (x := 10) (y := 27)) hS fun w a hS ha => ?_)
 refine jZ (jJ (wp_seq (jX [0, 1, 2, 3, 4, 5, 6, 7, 8] (xX 29 ha (hS.blk 0 rfl) fun a ha => ?_))))
 refine jQ [(1, 30, iv f), (2, 31, iv x2)] ha fun a ha => ?_
 refine jH (qY 32 (vs := [.agg #[.slice sp2.A sp2.n sp2.c], iv f, iv x2]) ha (impl_CanExchange_sat hS (hS.rdS 1 rfl) (toP_fits hf0)) fun v14 w a hp15 ha => ?_)
 obtain ⟨rfl, hS⟩ := hp15
 refine jQ [(4, 28, .tuple #[.bool ((canP (toP l0) f x2).1), .bool ((canP (toP l0) f x2).2)]), (5, 33, .bool ((canP (toP l0) f x2).1)), (6, 34, .bool ((canP (toP l0) f x2).2)), (7, 11, .bool ((canP (toP l0) f x2).1)), (8, 12, .bool ((canP (toP l0) f x2).2))] ha fun a ha => ?_
 refine jZ ?_
 replace ha := ha.as [(3, ptr b1 0), (6, .bool false), (8, .bool ((canP (toP l0) f x2).1)), (9, .bool ((canP (toP l0) f x2).2)), (10, ptr b12 0), (11, .bool ((canP (toP l0) f x2).1)), (12, .bool ((canP (toP l0) f x2).2))] rfl
 refine jJ (wp_seq (wp_seq (jX [0, 1, 2, 3, 4, 5, 6, 7] (jQ [(0, 35, .bool ((canP (toP l0) f x2).1)), (1, 36, .bool ((canP (toP l0) f x2).1))] ha fun a ha => ?_))))
 refine xQ (.bool false) ha ((qQ (v := .bool (!(((canP (toP l0) f x2).1) == ((canP (toP l0) f x2).1)))) ha (xG (op := (Op.binOp BinOp.neq 4 (Operand.tmp 35) (Operand.tmp 36) 4)) (d := some 37) (ty := 4)) (by kernel_rfl) (fun _ => by kernel_rfl)).as (by simp)) fun a ha => ?_
 refine jQ [(3, 38, .bool false), (4, 39, .bool ((canP (toP l0) f x2).2)), (5, 40, .bool ((canP (toP l0) f x2).2))] ha fun a ha => ?_
 refine xQ (.bool false) ha ((qQ (v := .bool (!(((canP (toP l0) f x2).2) == ((canP (toP l0) f x2).2)))) ha (AtG.here (gd := 38) ⟨(by kernel_rfl : ((jV Try.f3 8)[6]?).map spec = some ((Op.binOp BinOp.neq 4 (Operand.tmp 39) (Operand.tmp 40) 4), some 41, 4, some (3, false))), by kernel_rfl⟩ ha rfl) (by kernel_rfl) (fun _ => by kernel_rfl)).as (by simp)) fun a ha => ?_
 refine jQ [(7, 42, .bool false)] ha fun a ha => ?_
 refine jZ (jJ ?_)
 refine jK ha rfl rfl ?_
 refine wp_skip (jJ (wp_seq (wp_seq (xK 5 5 (hS.pickN 4 [0, 3]) hS fun w hS => ?_))))
 refine yW 0 43 ha (hS.pickN 4 [0, 3]) (fun _ hw => hw.blk 0 rfl) fun a ha => ?_
 refine yW 1 44 ha (hS.pickN 4 [0, 3]) (fun _ hw => hw.blk 1 rfl) fun a ha => ?_
 refine qU 2 (qY 45 (vs := [.agg #[.slice s0.A s0.n s0.c]]) ha (toProgram_sat hS (hr0.sat hS) hf0) fun v16 w a hp17 ha => ?_)
 obtain ⟨sp3, rfl, hS⟩ := hp17
 refine ⟨.inr (hS.pickN 5 [1, 4]), ?_⟩
 refine qU 3 (qY 46 (vs := [.agg #[.slice sp2.A sp2.n sp2.c], .agg #[.slice sp3.A sp3.n sp3.c]]) ha (eqP_sat hS (hS.rdS 2 rfl) (hS.rdS 0 rfl) (toP_fits hf0)) fun v18 w a hp19 ha => ?_)
 obtain ⟨rfl, hS⟩ := hp19
 refine ⟨.inr (hS.pickN 5 [1, 4]), ?_⟩
 refine qG (k := 0) [(4, 47, .bool false)] ha (.inr (hS.pickN 5 [1, 4])) fun a ha => ?_
 refine xV ?_
 replace ha := ha.as [(6, .bool false), (47, .bool false)] rfl
 refine jJ ?_
 refine jK ha rfl rfl ?_
 refine wp_skip (jJ (wp_seq (jX [0] (jQ [(0, 6, .bool true)] ha fun a ha => ?_))))
 refine jZ (jJ (wp_ret (jW ha (by kernel_rfl) (jG (t := 6) ha rfl) ?_)))
 exact ⟨rfl, hS.below⟩
end Go.Proofs.Ytpenhegoilccoaa.G
