/- What the claim FnExactNeverMade rests on, part 18 of 22; the last part proves it: for every input the law answers true, and its arguments read behind the call as before it. No condition. -/
import Derived.ChangeKeysEq
import Derived.Test.YtjkoibfkklhaiaaQNeverMade17
set_option linter.unusedSimpArgs false
set_option linter.unusedVariables false
set_option maxRecDepth 20000
set_option maxHeartbeats 1000000
namespace Go.Proofs.Ytjkoibfkklhaiaa
namespace SX
open Go.RowKit
def tailA (A : Option Addr) (j sz c : Nat) : Option Addr := if c = j then A else A.map fun a => a.add (j * sz)
section
variable {P : Program} {R : Array Oper} {Q : Exit → Act → World → Prop} {n : Nat} {e : Env} {a : Act} {w w0 : World} {Rs : List Asn}
theorem v_dropZ {S : World → Prop} {i d : Nat} {t el : TypeId} {x y : Operand} {ty : TypeId} {A : Option Addr} {m c j sz : Nat} {q : Int} (h : Has n e a) (ho : AtW R i (.slice t x (some y) none none) (some d) ty a)
  (hx : ev e x = some (.slice A m c)) (hy : ev e y = some (.int .i64 q)) (ht : P.underlying t = some (.slice el)) (hs : (P.info? el).map (·.size) = some sz) (hq : q = (j : Int)) (hj : j ≤ m) (hm : m ≤ c) :
  Val P R i a S d (.slice (tailA A j sz c) (m - j) (c - j)) :=
 Val.of_run ho fun o w h1 h2 hS => by
  subst hq
  rw [exec_eq h h1 h2 (by simp [covers, Op.operands, hx, hy, notSelect])]
  obtain ⟨ti, hti, hsz⟩ := Option.map_eq_some_iff.1 hs
  subst hsz
  simp [execOp, opr, evD, hx, hy, Instr.sliceAt, Instr.slice, underlying, ht, Instr.sliceBounds, Instr.sliceBound, asIntOf, sizeOf, typeInfo, hti, tailA]
  exact fun hh => absurd hj (by omega)
theorem o_appT {i d : Nat} {s x : Operand} {t el ty : TypeId} {sz bytes j un c : Nat} {A : Option Addr} {v : Value} {xs ys xs' : List Value} {z : Value} {K : Act → World → Prop} (p q : Nat) (h : Has n e a) (hd : d < n)
    (ho : AtW R i (.call { callee := .builtin .append, args := #[s, x], argTypes := #[t, t] }) (some d) ty a) (hs : ev e s = some v) (hx : ev e x = some (.slice (tailA A j sz c) (un - j) (c - j)))
    (ht : P.underlying t = some (.slice el)) (hinfo : (P.info? el).map (fun i => (i.zero, i.size, i.bytes)) = some (some z, sz, bytes)) (hz : z.cells.size = sz) (hsz : 0 < sz)
    (hS : Sat w0 w Rs) (hp : Rs[p]? = some (SX.row v el sz xs)) (hq : Rs[q]? = some (SX.row (.slice A un c) el sz ys)) (hm : j ≤ un) (h1 : ys.all Value.oneCell' = true) (hlen : xs.length + ys.length ≤ 1000000000) (hby : bytes ≤ 100000 * sz) (hys : xs ++ ys.drop (j * sz) = xs')
    (k : ∀ (z : Sl) w' a', Sat w0 w' (Rs.set p (SX.row (.slice z.A z.n z.c) el sz xs')) → Has n ((d, .slice z.A z.n z.c) :: e) a' → K a' w') : wpOp P R Q i K a w := by
  obtain ⟨i0, hi, hzz⟩ := Option.map_eq_some_iff.1 hinfo
  simp only [Prod.mk.injEq] at hzz
  obtain ⟨hz0, hz1, hz2⟩ := hzz
  have hpl : p < Rs.length := (List.getElem?_eq_some_iff.1 hp).1
  obtain ⟨nx, hown⟩ := hS.row p hp
  obtain ⟨us, g1, g2⟩ := hS.row q hq
  have hxl := hown.1
  rcases g2 with ⟨ev0, hus⟩ | ⟨g, cap, cur, ev0, _, hg, g3, g4, g5, g6⟩
  · simp only [Value.slice.injEq] at ev0
    obtain ⟨rfl, rfl, rfl⟩ := ev0;obtain rfl : j = 0 := by omega
    have hr := run_append_owned_none (P := P) (w := w) 0 t ty el i0 sz ht hi _ _ _ hown
    have hrun : (execOp (evD e) (opr (.call { callee := .builtin .append, args := #[s, x], argTypes := #[t, t] }) ty)).run P w = .ok (.value v) w := by
      simp [execOp, opr, resolve, invoke, builtin, evD, hs, hx, hr, tailA]
    obtain ⟨A2, nn, cc, rfl⟩ : ∃ A nn cc, v = .slice A nn cc := by
      rcases hown.2 with ⟨rfl, hn0⟩ | ⟨g, cap, cur, rfl, _⟩
      · exact ⟨none, 0, 0, rfl⟩
      · exact ⟨_, _, cap, rfl⟩
    have hy0 : ys = [] := by
      refine List.eq_nil_of_length_eq_zero ?_;rw [g1, hus, Nat.zero_mul]
    subst hy0;refine o_val h hd ho (by simp [covers, Op.operands, Call.operands, hs, hx, notSelect]) hrun fun a' ha => k ⟨A2, nn, cc⟩ w a' ?_ ha
    have h7 : Rs.set p (SX.row (.slice A2 nn cc) el sz xs') = Rs := by
      refine List.ext_getElem? fun j => ?_
      by_cases hj : p = j
      · subst hj; rw [List.getElem?_set_self hpl, hp, ← hys]; simp
      · rw [List.getElem?_set_ne hj]
    show Sat w0 w (Rs.set p (SX.row (.slice A2 nn cc) el sz xs'))
    rw [h7]; exact hS
  · simp only [Value.slice.injEq] at ev0
    obtain ⟨rfl, rfl, rfl⟩ := ev0;have hle : j * sz ≤ un * sz := Nat.mul_le_mul_right _ hm;have hyl : ys.length = un * sz := g1;have hl : (ys.drop (j * sz)).length = (un - j) * sz := by rw [List.length_drop, hyl, Nat.sub_mul]
    obtain ⟨ad, hA, hcells⟩ : ∃ ad : Addr, tailA (some ⟨g, 0, none⟩) j sz c = some ad ∧ ∀ o u, (ys.drop (j * sz))[o]? = some u → w.cell? (ad.add o) = some u := by
      by_cases hc : c = j
      · refine ⟨⟨g, 0, none⟩, by unfold tailA; rw [if_pos hc], fun o u hu => ?_⟩
        have h9 := (List.getElem?_eq_some_iff.1 hu).1;rw [hl, show un - j = 0 by omega, Nat.zero_mul] at h9
        omega
      · refine ⟨⟨g, 0 + j * sz, none⟩, by unfold tailA; rw [if_neg hc]; simp [add0], fun o u hu => ?_⟩
        rw [add0, Nat.zero_add, cell_of_row w g (j * sz + o) cur el (0, 0) hg, ← Array.getElem?_toList];rw [List.getElem?_drop] at hu;rw [← g6, List.getElem?_take] at hu
        split at hu
        · exact hu
        · cases hu
    have hm1 : un ≤ 1000000000 := Nat.le_trans (Nat.le_mul_of_pos_right _ hsz) (by omega);have hm2 : nx ≤ 1000000000 := Nat.le_trans (Nat.le_mul_of_pos_right _ hsz) (by omega)
    have hbytes : (nx + (un - j)) * bytes ≤ 140737488355328 := by
      have h2 : (nx + (un - j)) * bytes ≤ (nx + (un - j)) * (100000 * sz) := Nat.mul_le_mul_left _ hby;have h3 : (nx + (un - j)) * (100000 * sz) = 100000 * ((nx + (un - j)) * sz) := by rw [Nat.mul_left_comm]
      have h4 : (nx + (un - j)) * sz = nx * sz + (un - j) * sz := Nat.add_mul ..;have h5 : (un - j) * sz ≤ un * sz := Nat.mul_le_mul_right _ (Nat.sub_le ..)
      omega
    have h1' : ∀ u ∈ ys.drop (j * sz), u.oneCell' = true := fun u hu => List.all_eq_true.1 h1 u (List.mem_of_mem_drop hu);have hx' : ev e x = some (.slice (some ad) (un - j) (c - j)) := by rw [hx, hA]
    obtain ⟨v', w', hr, h2, h3, h4, h5⟩ := run_append_own_at (P := P) w 0 t ty el i0 z sz bytes ht hi hz0 hz1 hz2 hz hsz v nx xs hown ad (un - j) (c - j) (ys.drop (j * sz)) hl hcells h1' (by simp only [maxLen]; omega) hbytes (Nat.zero_le _)
    have hrun : (execOp (evD e) (opr (.call { callee := .builtin .append, args := #[s, x], argTypes := #[t, t] }) ty)).run P w = .ok (.value v') w' := by
      simp [execOp, opr, resolve, invoke, builtin, evD, hs, hx', hr]
    have hS' : Sat w0 w' (Rs.set p (SX.row v' el sz xs')) := by
      refine hS.upd hp _ h3.os h3.tape h3.output h3.size fun F hF => ⟨fun k => v'.ownBlock = some k, ⟨fun _ => Iff.rfl, _, by rw [← hys]; exact h2⟩, fun k hk => ?_, fun k hk hF' => h3.block k hk fun e => hF' ((hF.1 k).2 e.symm)⟩
      rcases h5 with h5 | h5
      · exact .inl ((hF.1 k).2 (by rw [← h5]; exact hk))
      · rw [h5] at hk
        injection hk with hk
        exact .inr (by omega)
    obtain ⟨A2, nn, cc, rfl⟩ : ∃ A nn cc, v' = .slice A nn cc := by
      rcases h2.2 with ⟨rfl, hn0⟩ | ⟨g, cap, cur, rfl, _⟩
      · exact ⟨none, 0, 0, rfl⟩
      · exact ⟨_, _, cap, rfl⟩
    exact o_val h hd ho (by simp [covers, Op.operands, Call.operands, hs, hx, notSelect]) hrun fun a' ha => k ⟨A2, nn, cc⟩ w' a' hS' ha
theorem run_eql2 {t e : TypeId} {i : TypeInfo} (hu : P.underlying t = some (.array 2 e)) (he : P.underlying e = some (.int .i64)) (hi : P.info? e = some i) (hc : P.cellsOf e = 1) (x1 x2 y1 y2 : Int) :
  (Op.equal t (.agg #[.int .i64 x1, .int .i64 x2]) (.agg #[.int .i64 y1, .int .i64 y2])).run P w = .ok (decide (x1 = y1) && decide (x2 = y2)) w := by
 unfold Op.equal
 obtain ⟨D, hD⟩ : ∃ D, Op.maxDepth = D + 1 + 1 := ⟨9998, rfl⟩
 rw [hD, run_equalIn_array w (D + 1) _ _ hu hi, hc, show List.range 2 = [0, 1] from rfl]
 have hp : ∀ (cs : Array Value) (o : Nat) (v : Value), cs[o]? = some v → (part e cs o).run P w = .ok v w := fun cs o v hv => by
  simp [part, isAgg, run_underlying he, hv, Result.andThen]
 have h0 : ∀ a b : Value, (part e #[a, b] 0).run P w = .ok a w := fun a b => hp _ 0 _ rfl
 have h9 : ∀ a b : Value, (part e #[a, b] 1).run P w = .ok b w := fun a b => hp _ 1 _ rfl
 have hq : ∀ x y : Int, (Op.equalIn (D + 1) e (.int .i64 x) (.int .i64 y)).run P w = .ok (decide (x = y)) w := fun x y => by
  have hb : (x == y) = decide (x = y) := by rw [Bool.eq_iff_iff]; simp
  simp [Op.equalIn, run_underlying he, Result.andThen, hb]
 by_cases h1 : x1 = y1 <;> by_cases h2 : x2 = y2 <;> simp [Op.eqItems, h0, h9, hq, Result.andThen, h1, h2]
theorem v_eql2 {S : World → Prop} {i d : Nat} {t e9 : TypeId} {x y : Operand} {ty : TypeId} {x1 x2 y1 y2 : Int} (h : Has n e a) (ho : AtW R i (.binOp .eql t x y t) (some d) ty a)
  (hx : ev e x = some (.agg #[.int .i64 x1, .int .i64 x2])) (hy : ev e y = some (.agg #[.int .i64 y1, .int .i64 y2])) (hu : P.underlying t = some (.array 2 e9)) (he : P.underlying e9 = some (.int .i64)) (hi : (P.info? e9).isSome = true) (hc : P.cellsOf e9 = 1) (hg : P.eqGuardType P.depth t = false) :
  Val P R i a S d (.bool (decide (x1 = y1) && decide (x2 = y2))) :=
 Val.of_run ho fun o w h1 h2 hS => by
  rw [exec_eq h h1 h2 (by simp [covers, Op.operands, hx, hy, notSelect])]
  obtain ⟨ti, hti⟩ := Option.isSome_iff_exists.1 hi
  have hr := run_eql2 (w := w) hu he hti hc x1 x2 y1 y2
  simp [execOp, opr, evD, hx, hy, eqGuard, hg, binOp, hr, Result.andThen]
end
end SX
end Go.Proofs.Ytjkoibfkklhaiaa
namespace Go.Proofs.Ytjkoibfkklhaiaa.G
open Go.RowKit Go.Proofs.Ytjkoibfkklhaiaa.SX Go.Proofs.YtjkoibfkklhaiaaW.PrintWords Go.Proofs.YtjkoibfkklhaiaaW.PrintLast Go.Proofs.YtjkoibfkklhaiaaW.PrintMore
theorem flat_drop {α : Type} {enc : α → List Value} {sz : Nat} (hsz : ∀ x, (enc x).length = sz) (l : List α) (j : Nat) (hj : j ≤ l.length) : (l.flatMap enc).drop (j * sz) = (l.drop j).flatMap enc := by
 conv => lhs; rw [← List.take_append_drop j l]
 rw [List.flatMap_append, List.drop_left']
 rw [flat_length hsz, List.length_take, Nat.min_eq_left hj]
theorem encR_tail {l1 l : List (Int × Int)} {j : Nat} (hj : j ≤ l.length) : encR l1 ++ (encR l).drop (j * 2) = encR (l1 ++ l.drop j) := by
 show _ ++ (l.flatMap cellsR).drop (j * 2) = _
 rw [flat_drop qY l j hj]
 simp [encR]
theorem whole_sat {w0 w : World} {Rs : List Asn} {s : Sl} {l : List (List ST)} {f arg fuel : Int} (hS : Sat w0 w Rs) (hr : RdP w s l) (ha : askB l f arg fuel = true) :
  Calls Try.prog 103 #[.agg #[.slice s.A s.n s.c], .int .i64 f, .int .i64 arg, .int .i64 fuel] w (Ret fun r w' => ∃ (q : MQ × FQ) (o tr se df : Sl), r = .tuple #[mV o fuel q.1 tr se, cV q.2 df] ∧ Sat w0 w' (rS se (rn l f arg fuel).m.places :: Rs)) := by
 obtain ⟨hP, h1, h2, h3⟩ := ask_parts ha
 obtain ⟨sbs, hPr⟩ := rdProg_of (c := s.c) hr.rd
 rw [← hr.len] at hPr
 refine (q_whole hP (Sat.start w) h1.1 h1.2 h2 h3 (hPr.keeps [])).mono fun e w' h => ?_
 cases e with
 | returned r =>
  obtain ⟨q, o, tr, se, df, hq, h4, h5⟩ := h
  have hE := run_eq hP (shared := 0) (arg := arg) h1.1 h1.2 h3
  rw [← hq] at hE
  rw [hE.seen] at h5
  exact ⟨q, o, tr, se, df, h4, hS.comp (Ps := [_]) (Sat.pick0 h5)⟩
 | _ => exact h.elim
theorem code70 : Try.f70.body = some (Code.seq (cr Try.f70 0 false) (Code.seq (cr Try.f70 1 false) (Code.seq (Code.block 0 (Code.loop (Code.seq (Code.seq (cr Try.f70 2 true) (Code.cond (Operand.tmp 39) Code.skip (Code.exit 0))) (Code.block 1 (cr Try.f70 3 false))))) (Code.seq (Code.seq (cr Try.f70 4 true) (Code.cond (Operand.tmp 53) (Code.seq (cr Try.f70 5 false) Code.ret) Code.skip)) (Code.seq (cr Try.f70 6 true) Code.ret))))) := by kernel_rfl
theorem put_sat {w0 w : World} {Rs : List Asn} {sa : Sl} {L : List (Int × Int)} {x : Int × Int} (hS : Sat w0 w (rS sa L :: Rs)) (hL : L.length ≤ 1000000) :
  Calls Try.prog 70 #[.slice sa.A sa.n sa.c, .agg #[.int .i64 x.1, .int .i64 x.2]] w (Ret fun r w' => ∃ o : Sl, r = .slice o.A o.n o.c ∧ o.n = (putP L x).length ∧ Sat w0 w' (rS o (putP L x) :: Rs) ∧ Sat w0 w' (rS sa L :: Rs)) := by
 have han : sa.n = L.length := hS.rowL (s := sa) (enc := cellsR) 0 qY (by decide) rfl
 have hac := (hS.rowC (s := sa) 0 rfl).1
 refine enter (n := 67) Try.func70 code70 (by kernel_rfl) (Nat.le_of_ble_eq_true rfl) (fun a ha => ?_)
 replace ha : Has 67 [(0, .slice sa.A sa.n sa.c), (1, .agg #[iv x.1, iv x.2])] a := ha
 refine wp_seq (jX [0, 1] (jK (qV 3 [iv x.1, iv x.2] 96 (ptr · 0) ha hS fun b1 w a hb2 hS ha => ?_)))
 refine jQ [(1, 4, .slice none 0 0)] ha fun a ha => ?_
 refine jY (jJ (wp_seq (jX [0] (jQ [(0, 5, iv 0)] ha fun a ha => ?_))))
 refine jY (jJ (wp_seq (wp_block ?_)))
 replace hS := hS.pickN 2 [1, 0]
 refine wp_loop_ghost (fun n_ a_ w_ => ∃ (k : Nat), n_ = L.length - k ∧ (k ≤ L.length) ∧ (∀ j : Nat, j < k → ∃ y, L[j]? = some y ∧ ltP y x = true) ∧ Has 67 [(0, .slice sa.A sa.n sa.c), (3, ptr b1 0), (4, .slice none 0 0), (5, iv (k : Int))] a_ ∧ Sat w0 w_ ((SX.row (.slice sa.A sa.n sa.c) 96 2 (encR L)) :: (SX.blk b1 [iv x.1, iv x.2] 96) :: Rs)) _ ⟨0, rfl, Nat.zero_le _, (fun j hj => by omega), ha.keeps [0, 3, 4, 5] _ rfl, hS⟩ ?_
 rintro n_ a w ⟨k, rfl, hk, hless, ha, hS⟩
 refine wp_seq (wp_seq (xY 34 34 hS fun w hS => ?_))
 refine jZ (k := 29) [(0, 6, iv (k : Int)), (1, 7, .slice sa.A sa.n sa.c), (2, 8, iv (sa.n : Int)), (3, 9, .bool (decide ((k : Int) < (sa.n : Int)))), (4, 10, .bool (decide ((k : Int) < (sa.n : Int))))] ha (.inr hS) fun a ha => ?_
 by_cases c3 : (k : Int) < (sa.n : Int)
 ·
  replace ha := ha.turn 9 (.bool true) rfl (congrArg Value.bool (decide_eq_true c3))
  replace ha := ha.turn 10 (.bool true) rfl (congrArg Value.bool (decide_eq_true c3))
  obtain ⟨y, hy⟩ : ∃ y, L[k]? = some y := ⟨_, List.getElem?_eq_getElem (by omega)⟩
  refine jZ (k := 27) [(5, 11, .slice sa.A sa.n sa.c), (6, 12, iv (k : Int))] ha (.inr hS) fun a ha => ?_
  refine yY 7 (.pointer (some ⟨bk sa, k * 2, none⟩)) ha (zX (s := sa) (el := 96) (sz := 2) (j := k) ha (AtG.here (gd := 10) ⟨(by kernel_rfl : ((jH Try.f70 2)[7]?).map spec = some ((Op.indexAddr 54 (Operand.tmp 11) (Operand.tmp 12)), some 13, 0, some (4, true))), by kernel_rfl⟩ ha rfl) rfl rfl (by kernel_rfl) (by kernel_rfl) (hS.rowA (s := sa) 0 rfl (by have := (List.getElem?_eq_some_iff.1 hy).1; rw [encR_length]; omega)) (rfl) (by have h9 := hS.rowL (s := sa) (enc := cellsR) 0 qY (by decide) rfl; have := (List.getElem?_eq_some_iff.1 hy).1; omega)) (.inr hS) fun a ha => ?_
  refine jZ (k := 25) [(8, 14, .pointer (some ⟨bk sa, k * 2, none⟩))] ha (.inr hS) fun a ha => ?_
  refine zW 9 (iv y.1) ha (zU ha (AtG.here (gd := 10) ⟨(by kernel_rfl : ((jH Try.f70 2)[9]?).map spec = some ((Op.load 3 (Operand.tmp 14)), some 15, 3, some (4, true))), by kernel_rfl⟩ ha rfl) rfl (by kernel_rfl) (fun w' hw => ((hw.rdC (s := sa) 0 rfl)).cells _ _ ((flat_get (enc := cellsR) (o := 0) qY hy (by decide)).trans rfl))) hS fun a ha => ?_
  refine jZ (k := 23) [(10, 16, ptr b1 0)] ha (.inr hS) fun a ha => ?_
  refine qW 11 (d := 17) (b := b1) (j := 0) ha hS (fun _ hw => hw.blk 1 rfl) rfl fun a ha => ?_
  refine jZ (k := 20) [(12, 18, .bool (decide (y.1 < x.1))), (13, 19, .bool (decide (y.1 < x.1)))] ha (.inr hS) fun a ha => ?_
  by_cases c4 : y.1 < x.1
  ·
   replace ha := ha.turn 18 (.bool true) rfl (congrArg Value.bool (decide_eq_true c4));replace ha := ha.turn 19 (.bool true) rfl (congrArg Value.bool (decide_eq_true c4));refine jZ (k := 0) [(14, 20, undef), (15, 21, undef), (16, 22, undef), (17, 23, undef), (18, 24, undef), (19, 25, undef), (20, 26, undef), (21, 27, undef), (22, 28, undef), (23, 29, undef), (24, 30, undef), (25, 31, undef), (26, 32, undef), (27, 33, undef), (28, 34, undef), (29, 35, undef), (30, 36, undef), (31, 37, undef), (32, 38, .bool true), (33, 39, .bool true)] ha (.inr hS) fun a ha => ?_;refine qU (jJ ?_);refine jV ha rfl rfl ?_;refine wp_skip (jJ (wp_block (jX [0, 1, 2] (jQ [(0, 40, iv (k : Int))] ha fun a ha => ?_))));refine zZ 41 ((k : Int) + 1) ha fun a ha => ?_;refine jQ [(2, 5, iv ((k : Int) + 1))] ha fun a ha => ?_;refine jY (in_n (jJ ?_));replace hS : Sat w0 w ((SX.row (.slice sa.A sa.n sa.c) 96 2 (encR L)) :: (SX.blk b1 [iv x.1, iv x.2] 96) :: Rs) := hS;exact ⟨_, by omega, k + 1, rfl, by omega, less_next hless hy (by simp only [ltP, Bool.or_eq_true, Bool.and_eq_true, decide_eq_true_eq]; omega), ha.keeps [0, 3, 4, 5] _ rfl, hS⟩
  replace ha := ha.turn 18 (.bool false) rfl (congrArg Value.bool (decide_eq_false c4))
  replace ha := ha.turn 19 (.bool false) rfl (congrArg Value.bool (decide_eq_false c4))
  refine jZ (k := 18) [(14, 20, .slice sa.A sa.n sa.c), (15, 21, iv (k : Int))] ha (.inr hS) fun a ha => ?_
  refine yY 16 (.pointer (some ⟨bk sa, k * 2, none⟩)) ha (zX (s := sa) (el := 96) (sz := 2) (j := k) ha (AtG.here (gd := 19) ⟨(by kernel_rfl : ((jH Try.f70 2)[16]?).map spec = some ((Op.indexAddr 54 (Operand.tmp 20) (Operand.tmp 21)), some 22, 0, some (13, false))), by kernel_rfl⟩ ha rfl) rfl rfl (by kernel_rfl) (by kernel_rfl) (hS.rowA (s := sa) 0 rfl (by have := (List.getElem?_eq_some_iff.1 hy).1; rw [encR_length]; omega)) (rfl) (by have h9 := hS.rowL (s := sa) (enc := cellsR) 0 qY (by decide) rfl; have := (List.getElem?_eq_some_iff.1 hy).1; omega)) (.inr hS) fun a ha => ?_
  refine jZ (k := 16) [(17, 23, .pointer (some ⟨bk sa, k * 2, none⟩))] ha (.inr hS) fun a ha => ?_
  refine zW 18 (iv y.1) ha (zU ha (AtG.here (gd := 19) ⟨(by kernel_rfl : ((jH Try.f70 2)[18]?).map spec = some ((Op.load 3 (Operand.tmp 23)), some 24, 3, some (13, false))), by kernel_rfl⟩ ha rfl) rfl (by kernel_rfl) (fun w' hw => ((hw.rdC (s := sa) 0 rfl)).cells _ _ ((flat_get (enc := cellsR) (o := 0) qY hy (by decide)).trans rfl))) hS fun a ha => ?_
  refine jZ (k := 14) [(19, 25, ptr b1 0)] ha (.inr hS) fun a ha => ?_
  refine qW 20 (d := 26) (b := b1) (j := 0) ha hS (fun _ hw => hw.blk 1 rfl) rfl fun a ha => ?_
  refine jZ (k := 11) [(21, 27, .bool (decide (y.1 = x.1))), (22, 28, .bool (decide (y.1 = x.1)))] ha (.inr hS) fun a ha => ?_
  by_cases c5 : y.1 = x.1
  ·
   replace ha := ha.turn 27 (.bool true) rfl (congrArg Value.bool (decide_eq_true c5));replace ha := ha.turn 28 (.bool true) rfl (congrArg Value.bool (decide_eq_true c5));refine jZ (k := 9) [(23, 29, .slice sa.A sa.n sa.c), (24, 30, iv (k : Int))] ha (.inr hS) fun a ha => ?_;refine yY 25 (.pointer (some ⟨bk sa, k * 2, none⟩)) ha (zX (s := sa) (el := 96) (sz := 2) (j := k) ha (AtG.here (gd := 28) ⟨(by kernel_rfl : ((jH Try.f70 2)[25]?).map spec = some ((Op.indexAddr 54 (Operand.tmp 29) (Operand.tmp 30)), some 31, 0, some (22, true))), by kernel_rfl⟩ ha rfl) rfl rfl (by kernel_rfl) (by kernel_rfl) (hS.rowA (s := sa) 0 rfl (by have := (List.getElem?_eq_some_iff.1 hy).1; rw [encR_length]; omega)) (rfl) (by have h9 := hS.rowL (s := sa) (enc := cellsR) 0 qY (by decide) rfl; have := (List.getElem?_eq_some_iff.1 hy).1; omega)) (.inr hS) fun a ha => ?_;refine jZ (k := 7) [(26, 32, .pointer (some ⟨bk sa, k * 2 + 1, none⟩))] ha (.inr hS) fun a ha => ?_;refine zW 27 (iv y.2) ha (zU ha (AtG.here (gd := 28) ⟨(by kernel_rfl : ((jH Try.f70 2)[27]?).map spec = some ((Op.load 3 (Operand.tmp 32)), some 33, 3, some (22, true))), by kernel_rfl⟩ ha rfl) rfl (by kernel_rfl) (fun w' hw => ((hw.rdC (s := sa) 0 rfl)).cells _ _ ((flat_get (enc := cellsR) (o := 1) qY hy (by decide)).trans rfl))) hS fun a ha => ?_;refine jZ (k := 5) [(28, 34, ptr b1 1)] ha (.inr hS) fun a ha => ?_;refine qW 29 (d := 35) (b := b1) (j := 1) ha hS (fun _ hw => hw.blk 1 rfl) rfl fun a ha => ?_;refine jZ (k := 0) [(30, 36, .bool (decide (y.2 < x.2))), (31, 37, .bool (decide (y.2 < x.2))), (32, 38, .bool (decide (y.2 < x.2))), (33, 39, .bool (decide (y.2 < x.2)))] ha (.inr hS) fun a ha => ?_;refine qU (jJ ?_)
   by_cases c6 : y.2 < x.2
   ·
    refine jV ha rfl (decide_eq_true c6) ?_;refine wp_skip (jJ (wp_block (jX [0, 1, 2] (jQ [(0, 40, iv (k : Int))] ha fun a ha => ?_))));refine zZ 41 ((k : Int) + 1) ha fun a ha => ?_;refine jQ [(2, 5, iv ((k : Int) + 1))] ha fun a ha => ?_;refine jY (in_n (jJ ?_));replace hS : Sat w0 w ((SX.row (.slice sa.A sa.n sa.c) 96 2 (encR L)) :: (SX.blk b1 [iv x.1, iv x.2] 96) :: Rs) := hS;exact ⟨_, by omega, k + 1, rfl, by omega, less_next hless hy (by simp only [ltP, Bool.or_eq_true, Bool.and_eq_true, decide_eq_true_eq]; omega), ha.keeps [0, 3, 4, 5] _ rfl, hS⟩
   refine jW ha rfl (decide_eq_false c6) ?_;refine wp_exit (xW (xW (in_x (jJ (wp_seq (wp_seq (xY 12 12 hS fun w hS => ?_)))))));refine jZ (k := 7) [(0, 42, iv (k : Int)), (1, 43, .slice sa.A sa.n sa.c), (2, 44, iv (sa.n : Int)), (3, 45, .bool (decide ((k : Int) < (sa.n : Int)))), (4, 46, .bool (decide ((k : Int) < (sa.n : Int))))] ha (.inr hS) fun a ha => ?_;replace ha := ha.turn 45 (.bool true) rfl (congrArg Value.bool (decide_eq_true c3));replace ha := ha.turn 46 (.bool true) rfl (congrArg Value.bool (decide_eq_true c3));refine jZ (k := 5) [(5, 47, .slice sa.A sa.n sa.c), (6, 48, iv (k : Int))] ha (.inr hS) fun a ha => ?_;refine yY 7 (.pointer (some ⟨bk sa, k * 2, none⟩)) ha (zX (s := sa) (el := 96) (sz := 2) (j := k) ha (AtG.here (gd := 46) ⟨(by kernel_rfl : ((jH Try.f70 4)[7]?).map spec = some ((Op.indexAddr 54 (Operand.tmp 47) (Operand.tmp 48)), some 49, 0, some (4, true))), by kernel_rfl⟩ ha rfl) rfl rfl (by kernel_rfl) (by kernel_rfl) (hS.rowA (s := sa) 0 rfl (by have := (List.getElem?_eq_some_iff.1 hy).1; rw [encR_length]; omega)) (rfl) (by have h9 := hS.rowL (s := sa) (enc := cellsR) 0 qY (by decide) rfl; have := (List.getElem?_eq_some_iff.1 hy).1; omega)) (.inr hS) fun a ha => ?_;refine zW 8 (.agg #[iv y.1, iv y.2]) ha (v_loadL ha (AtG.here (gd := 46) ⟨(by kernel_rfl : ((jH Try.f70 4)[8]?).map spec = some ((Op.load 96 (Operand.tmp 49)), some 50, 96, some (4, true))), by kernel_rfl⟩ ha rfl) rfl (fun w' hw => run_loadVar_agg (vs := [iv y.1, iv y.2]) (by kernel_rfl) (fun i u hu => by match i, hu with | 0, hu => rw [add0]; rw [← Option.some.inj hu]; exact (((hw.rdC (s := sa) 0 rfl)).cells _ _ ((flat_get (enc := cellsR) (o := 0) qY hy (by decide)).trans rfl)) | 1, hu => rw [add0]; rw [← Option.some.inj hu]; exact (((hw.rdC (s := sa) 0 rfl)).cells _ _ ((flat_get (enc := cellsR) (o := 1) qY hy (by decide)).trans rfl)) | n + 2, hu => simp at hu))) hS fun a ha => ?_;refine yJ 9 51 ha hS (fun _ hw => hw.blk 1 rfl) fun a ha => ?_;refine yY 10 (.bool (decide (y.1 = x.1) && decide (y.2 = x.2))) ha (v_eql2 (e9 := 3) ha (AtG.here (gd := 46) ⟨(by kernel_rfl : ((jH Try.f70 4)[10]?).map spec = some ((Op.binOp BinOp.eql 96 (Operand.tmp 50) (Operand.tmp 51) 96), some 52, 4, some (4, true))), by kernel_rfl⟩ ha rfl) rfl rfl (by kernel_rfl) (by kernel_rfl) (by kernel_rfl) (by kernel_rfl) (by kernel_rfl)) (.inr hS) fun a ha => ?_;refine jZ (k := 0) [(11, 53, .bool (decide (y.1 = x.1) && decide (y.2 = x.2)))] ha (.inr hS) fun a ha => ?_;refine qU ?_;replace ha := ha.as [(0, .slice sa.A sa.n sa.c), (3, ptr b1 0), (4, .slice none 0 0), (5, iv (k : Int)), (53, .bool (decide (y.1 = x.1) && decide (y.2 = x.2)))] rfl;refine jJ ?_
   rcases Bool.eq_false_or_eq_true (decide (y.1 = x.1) && decide (y.2 = x.2)) with c7 | c7
   ·
    refine jV ha rfl c7 ?_;refine wp_seq (jX [0, 1] (jQ [(0, 54, .slice sa.A sa.n sa.c), (1, 4, .slice sa.A sa.n sa.c)] ha fun a ha => ?_));refine jY (jJ (wp_ret (qH (qG ha (by kernel_rfl) (xG (t := 4) ha rfl) ?_))));have hE : putP L x = L := put_at hk hless hy c7;rw [hE];replace hS := hS.pickN 2 [0];exact ⟨sa, rfl, han, hS, hS⟩
   refine jW ha rfl c7 ?_;refine wp_skip (jJ (kW (J := fun a_ w_ => ∃ (g1_0 : Sl) (g1_1 : Nat), Has 67 [(4, .slice g1_0.A g1_0.n g1_0.c)] a_ ∧ Sat w0 w_ ((SX.blk g1_1 [iv x.1, iv x.2] 96) :: (SX.row (.slice g1_0.A g1_0.n g1_0.c) 96 2 (encR (((L.take k) ++ [(x.1, x.2)]) ++ L.drop k))) :: (SX.row (.slice sa.A sa.n sa.c) 96 2 (encR L)) :: (SX.blk b1 [iv x.1, iv x.2] 96) :: Rs)) ?_ ?_))
   ·
    refine xQ 13 13 (hS.pickN 2 [1]) hS fun w hS => ?_;refine jZ (k := 11) [(1, 56, .slice sa.A sa.n sa.c), (2, 57, iv (k : Int))] ha (.inr (hS.pickN 2 [1])) fun a ha => ?_;refine yY 3 (.slice sa.A k sa.c) ha (v_takeZ (el := 96) (j := k) ha (yU (op := (Op.slice 54 (Operand.tmp 56) none (some (Operand.tmp 57)) none)) (d := some 58) (ty := 54)) rfl rfl (by kernel_rfl) (by kernel_rfl) rfl (by omega) hac) (.inr (hS.pickN 2 [1])) fun a ha => ?_;refine yJ 5 60 ha (hS.pickN 2 [1]) (fun _ hw => hw.blk 0 rfl) fun a ha => ?_;refine jZ (k := 7) [(8, 63, .slice sa.A sa.n sa.c), (9, 64, iv (k : Int))] ha (.inr (hS.pickN 2 [1])) fun a ha => ?_;refine yY 10 (.slice (tailA sa.A k 2 sa.c) (sa.n - k) (sa.c - k)) ha (v_dropZ (el := 96) (sz := 2) (j := k) ha (yU (op := (Op.slice 54 (Operand.tmp 63) (some (Operand.tmp 64)) none none)) (d := some 65) (ty := 54)) rfl rfl (by kernel_rfl) (by kernel_rfl) rfl (by omega) hac) (.inr (hS.pickN 2 [1])) fun a ha => ?_;refine d_all (rs := [0, 6]) (by kernel_rfl) (by simp) (forall_mem_2 ?_ ?_)
    ·
     refine id (qV 55 [] 96 (fun b => .slice (some ⟨b, 0, none⟩) 0 0) ha hS fun b8 w a hb9 hS ha => ?_);refine ⟨.inr (hS.pickN 3 [2]), ?_⟩;refine d_all (rs := [4, 6]) (by kernel_rfl) (by simp) (forall_mem_2 ?_ ?_)
     ·
      refine id (o_appRow0 (m := k) (z := .agg #[iv 0, iv 0]) (sz := 2) (bytes := 16) (ys' := encR (L.take k)) 0 1 ha (by decide) (yU (op := (Op.call { callee := (Callee.builtin Builtin.append), args := #[(Operand.tmp 55), (Operand.tmp 58)], argTypes := #[54, 54] })) (d := some 59) (ty := 54)) rfl rfl (by kernel_rfl) (by kernel_rfl) rfl (by decide) hS rfl rfl (by omega) (encR_one _) (by rw [encR_length]; omega) (by decide) (encR_take _ _) fun s10 w a hS hn11 ha => ?_);refine ⟨.inr (hS.pickN 3 [2]), ?_⟩;refine jU 6 (qV 61 [iv x.1, iv x.2] 96 (fun b => .slice (some ⟨b, 0, none⟩) 1 1) ha hS fun b12 w a hb13 hS ha => ?_);refine ⟨.inr (hS.pickN 4 [3]), ?_⟩;refine jU 7 (o_ap 62 1 0 (encR ((L.take k) ++ [(x.1, x.2)])) ha hS rfl rfl (by rw [encR_length, List.length_take]; simp only [List.length_cons, List.length_nil]; omega) (encR_snoc _ _ _) fun s17 w a hS hn18 ha => ?_);refine ⟨.inr (hS.pickN 4 [3]), ?_⟩;refine jU 11 (o_appT (j := k) (un := sa.n) (c := sa.c) (A := sa.A) (z := .agg #[iv 0, iv 0]) (sz := 2) (bytes := 16) (xs' := encR (((L.take k) ++ [(x.1, x.2)]) ++ L.drop k)) 1 2 ha (by decide) (yU (op := (Op.call { callee := (Callee.builtin Builtin.append), args := #[(Operand.tmp 62), (Operand.tmp 65)], argTypes := #[54, 54] })) (d := some 66) (ty := 54)) rfl rfl (by kernel_rfl) (by kernel_rfl) rfl (by decide) hS rfl rfl (by omega) (encR_one _) (by rw [encR_length, encR_length]; simp only [List.length_append, List.length_take, List.length_cons, List.length_nil]; omega) (by decide) (encR_tail hk) fun s19 w a hS ha => ?_);refine ⟨.inr (hS.pickN 4 [3]), ?_⟩;refine jZ (k := 0) [(12, 4, .slice s19.A s19.n s19.c)] ha (.inr (hS.pickN 4 [3])) fun a ha => ?_;refine qU ?_;replace ha := ha.as [(4, .slice s19.A s19.n s19.c)] rfl;replace hS : Sat w0 w ((SX.blk b12 [iv x.1, iv x.2] 96) :: (SX.row (.slice s19.A s19.n s19.c) 96 2 (encR (((L.take k) ++ [(x.1, x.2)]) ++ L.drop k))) :: (SX.row (.slice sa.A sa.n sa.c) 96 2 (encR L)) :: (SX.blk b1 [iv x.1, iv x.2] 96) :: Rs) := hS;exact jJ ⟨s19, b12, ha.keeps [4] _ rfl, hS⟩
     refine id (qV 61 [iv x.1, iv x.2] 96 (fun b => .slice (some ⟨b, 0, none⟩) 1 1) ha hS fun b20 w a hb21 hS ha => ?_);refine ⟨.inr (hS.pickN 4 [3]), ?_⟩;refine jU 4 (o_appRow0 (m := k) (z := .agg #[iv 0, iv 0]) (sz := 2) (bytes := 16) (ys' := encR (L.take k)) 1 2 ha (by decide) (yU (op := (Op.call { callee := (Callee.builtin Builtin.append), args := #[(Operand.tmp 55), (Operand.tmp 58)], argTypes := #[54, 54] })) (d := some 59) (ty := 54)) rfl rfl (by kernel_rfl) (by kernel_rfl) rfl (by decide) hS rfl rfl (by omega) (encR_one _) (by rw [encR_length]; omega) (by decide) (encR_take _ _) fun s22 w a hS hn23 ha => ?_);refine ⟨.inr (hS.pickN 4 [3]), ?_⟩;refine jU 7 (o_ap 62 1 0 (encR ((L.take k) ++ [(x.1, x.2)])) ha hS rfl rfl (by rw [encR_length, List.length_take]; simp only [List.length_cons, List.length_nil]; omega) (encR_snoc _ _ _) fun s27 w a hS hn28 ha => ?_);refine ⟨.inr (hS.pickN 4 [3]), ?_⟩;refine jU 11 (o_appT (j := k) (un := sa.n) (c := sa.c) (A := sa.A) (z := .agg #[iv 0, iv 0]) (sz := 2) (bytes := 16) (xs' := encR (((L.take k) ++ [(x.1, x.2)]) ++ L.drop k)) 1 2 ha (by decide) (yU (op := (Op.call { callee := (Callee.builtin Builtin.append), args := #[(Operand.tmp 62), (Operand.tmp 65)], argTypes := #[54, 54] })) (d := some 66) (ty := 54)) rfl rfl (by kernel_rfl) (by kernel_rfl) rfl (by decide) hS rfl rfl (by omega) (encR_one _) (by rw [encR_length, encR_length]; simp only [List.length_append, List.length_take, List.length_cons, List.length_nil]; omega) (by decide) (encR_tail hk) fun s29 w a hS ha => ?_);refine ⟨.inr (hS.pickN 4 [3]), ?_⟩;refine jZ (k := 0) [(12, 4, .slice s29.A s29.n s29.c)] ha (.inr (hS.pickN 4 [3])) fun a ha => ?_;refine qU ?_;replace ha := ha.as [(4, .slice s29.A s29.n s29.c)] rfl;replace hS : Sat w0 w ((SX.blk b20 [iv x.1, iv x.2] 96) :: (SX.row (.slice s29.A s29.n s29.c) 96 2 (encR (((L.take k) ++ [(x.1, x.2)]) ++ L.drop k))) :: (SX.row (.slice sa.A sa.n sa.c) 96 2 (encR L)) :: (SX.blk b1 [iv x.1, iv x.2] 96) :: Rs) := hS;exact jJ ⟨s29, b20, ha.keeps [4] _ rfl, hS⟩
    refine id (qV 61 [iv x.1, iv x.2] 96 (fun b => .slice (some ⟨b, 0, none⟩) 1 1) ha hS fun b30 w a hb31 hS ha => ?_);refine ⟨.inr (hS.pickN 3 [2]), ?_⟩;refine jU 0 (qV 55 [] 96 (fun b => .slice (some ⟨b, 0, none⟩) 0 0) ha hS fun b32 w a hb33 hS ha => ?_);refine ⟨.inr (hS.pickN 4 [3]), ?_⟩;refine jU 4 (o_appRow0 (m := k) (z := .agg #[iv 0, iv 0]) (sz := 2) (bytes := 16) (ys' := encR (L.take k)) 0 2 ha (by decide) (yU (op := (Op.call { callee := (Callee.builtin Builtin.append), args := #[(Operand.tmp 55), (Operand.tmp 58)], argTypes := #[54, 54] })) (d := some 59) (ty := 54)) rfl rfl (by kernel_rfl) (by kernel_rfl) rfl (by decide) hS rfl rfl (by omega) (encR_one _) (by rw [encR_length]; omega) (by decide) (encR_take _ _) fun s34 w a hS hn35 ha => ?_);refine ⟨.inr (hS.pickN 4 [3]), ?_⟩;refine jU 7 (o_ap 62 0 1 (encR ((L.take k) ++ [(x.1, x.2)])) ha hS rfl rfl (by rw [encR_length, List.length_take]; simp only [List.length_cons, List.length_nil]; omega) (encR_snoc _ _ _) fun s39 w a hS hn40 ha => ?_);refine ⟨.inr (hS.pickN 4 [3]), ?_⟩;refine jU 11 (o_appT (j := k) (un := sa.n) (c := sa.c) (A := sa.A) (z := .agg #[iv 0, iv 0]) (sz := 2) (bytes := 16) (xs' := encR (((L.take k) ++ [(x.1, x.2)]) ++ L.drop k)) 0 2 ha (by decide) (yU (op := (Op.call { callee := (Callee.builtin Builtin.append), args := #[(Operand.tmp 62), (Operand.tmp 65)], argTypes := #[54, 54] })) (d := some 66) (ty := 54)) rfl rfl (by kernel_rfl) (by kernel_rfl) rfl (by decide) hS rfl rfl (by omega) (encR_one _) (by rw [encR_length, encR_length]; simp only [List.length_append, List.length_take, List.length_cons, List.length_nil]; omega) (by decide) (encR_tail hk) fun s41 w a hS ha => ?_);refine ⟨.inr (hS.pickN 4 [3]), ?_⟩;refine jZ (k := 0) [(12, 4, .slice s41.A s41.n s41.c)] ha (.inr (hS.pickN 4 [3])) fun a ha => ?_;refine qU ?_;replace ha := ha.as [(4, .slice s41.A s41.n s41.c)] rfl;replace hS := hS.pickN 4 [1, 0, 2, 3];exact jJ ⟨s41, b30, ha.keeps [4] _ rfl, hS⟩
   rintro a w ⟨g1_0, g1_1, ha, hS⟩
   refine wp_ret (qG ha (by kernel_rfl) (xG (t := 4) ha rfl) ?_);have hE : putP L x = L.take k ++ [x] ++ L.drop k := put_new hk hless (fun y9 hy9 => by obtain rfl := Option.some.inj (hy9.symm.trans hy); exact ⟨by simp only [ltP, Bool.or_eq_false_iff, Bool.and_eq_false_iff, decide_eq_false_iff_not]; omega, c7⟩);rw [hE];have hn9 := hS.rowL (s := g1_0) (enc := cellsR) 1 qY (by decide) rfl;exact ⟨g1_0, rfl, hn9, hS.pickN 4 [1], hS.pickN 4 [2]⟩
  replace ha := ha.turn 27 (.bool false) rfl (congrArg Value.bool (decide_eq_false c5))
  replace ha := ha.turn 28 (.bool false) rfl (congrArg Value.bool (decide_eq_false c5))
  refine jZ (k := 0) [(23, 29, undef), (24, 30, undef), (25, 31, undef), (26, 32, undef), (27, 33, undef), (28, 34, undef), (29, 35, undef), (30, 36, undef), (31, 37, .bool false), (32, 38, .bool false), (33, 39, .bool false)] ha (.inr hS) fun a ha => ?_
  refine qU (jJ ?_)
  refine jW ha rfl rfl ?_
  refine wp_exit (xW (xW (in_x (jJ (wp_seq (wp_seq (xY 12 12 hS fun w hS => ?_)))))))
  refine jZ (k := 7) [(0, 42, iv (k : Int)), (1, 43, .slice sa.A sa.n sa.c), (2, 44, iv (sa.n : Int)), (3, 45, .bool (decide ((k : Int) < (sa.n : Int)))), (4, 46, .bool (decide ((k : Int) < (sa.n : Int))))] ha (.inr hS) fun a ha => ?_
  replace ha := ha.turn 45 (.bool true) rfl (congrArg Value.bool (decide_eq_true c3))
  replace ha := ha.turn 46 (.bool true) rfl (congrArg Value.bool (decide_eq_true c3))
  refine jZ (k := 5) [(5, 47, .slice sa.A sa.n sa.c), (6, 48, iv (k : Int))] ha (.inr hS) fun a ha => ?_
  refine yY 7 (.pointer (some ⟨bk sa, k * 2, none⟩)) ha (zX (s := sa) (el := 96) (sz := 2) (j := k) ha (AtG.here (gd := 46) ⟨(by kernel_rfl : ((jH Try.f70 4)[7]?).map spec = some ((Op.indexAddr 54 (Operand.tmp 47) (Operand.tmp 48)), some 49, 0, some (4, true))), by kernel_rfl⟩ ha rfl) rfl rfl (by kernel_rfl) (by kernel_rfl) (hS.rowA (s := sa) 0 rfl (by have := (List.getElem?_eq_some_iff.1 hy).1; rw [encR_length]; omega)) (rfl) (by have h9 := hS.rowL (s := sa) (enc := cellsR) 0 qY (by decide) rfl; have := (List.getElem?_eq_some_iff.1 hy).1; omega)) (.inr hS) fun a ha => ?_
  refine zW 8 (.agg #[iv y.1, iv y.2]) ha (v_loadL ha (AtG.here (gd := 46) ⟨(by kernel_rfl : ((jH Try.f70 4)[8]?).map spec = some ((Op.load 96 (Operand.tmp 49)), some 50, 96, some (4, true))), by kernel_rfl⟩ ha rfl) rfl (fun w' hw => run_loadVar_agg (vs := [iv y.1, iv y.2]) (by kernel_rfl) (fun i u hu => by match i, hu with | 0, hu => rw [add0]; rw [← Option.some.inj hu]; exact (((hw.rdC (s := sa) 0 rfl)).cells _ _ ((flat_get (enc := cellsR) (o := 0) qY hy (by decide)).trans rfl)) | 1, hu => rw [add0]; rw [← Option.some.inj hu]; exact (((hw.rdC (s := sa) 0 rfl)).cells _ _ ((flat_get (enc := cellsR) (o := 1) qY hy (by decide)).trans rfl)) | n + 2, hu => simp at hu))) hS fun a ha => ?_
  refine yJ 9 51 ha hS (fun _ hw => hw.blk 1 rfl) fun a ha => ?_
  refine yY 10 (.bool (decide (y.1 = x.1) && decide (y.2 = x.2))) ha (v_eql2 (e9 := 3) ha (AtG.here (gd := 46) ⟨(by kernel_rfl : ((jH Try.f70 4)[10]?).map spec = some ((Op.binOp BinOp.eql 96 (Operand.tmp 50) (Operand.tmp 51) 96), some 52, 4, some (4, true))), by kernel_rfl⟩ ha rfl) rfl rfl (by kernel_rfl) (by kernel_rfl) (by kernel_rfl) (by kernel_rfl) (by kernel_rfl)) (.inr hS) fun a ha => ?_
  refine jZ (k := 0) [(11, 53, .bool (decide (y.1 = x.1) && decide (y.2 = x.2)))] ha (.inr hS) fun a ha => ?_
  refine qU ?_
  replace ha := ha.as [(0, .slice sa.A sa.n sa.c), (3, ptr b1 0), (4, .slice none 0 0), (5, iv (k : Int)), (53, .bool (decide (y.1 = x.1) && decide (y.2 = x.2)))] rfl
  refine jJ ?_
  rcases Bool.eq_false_or_eq_true (decide (y.1 = x.1) && decide (y.2 = x.2)) with c42 | c42
  ·
   refine jV ha rfl c42 ?_;refine wp_seq (jX [0, 1] (jQ [(0, 54, .slice sa.A sa.n sa.c), (1, 4, .slice sa.A sa.n sa.c)] ha fun a ha => ?_));refine jY (jJ (wp_ret (qH (qG ha (by kernel_rfl) (xG (t := 4) ha rfl) ?_))));have hE : putP L x = L := put_at hk hless hy c42;rw [hE];replace hS := hS.pickN 2 [0];exact ⟨sa, rfl, han, hS, hS⟩
  refine jW ha rfl c42 ?_
  refine wp_skip (jJ (kW (J := fun a_ w_ => ∃ (g2_0 : Sl) (g2_1 : Nat), Has 67 [(4, .slice g2_0.A g2_0.n g2_0.c)] a_ ∧ Sat w0 w_ ((SX.blk g2_1 [iv x.1, iv x.2] 96) :: (SX.row (.slice g2_0.A g2_0.n g2_0.c) 96 2 (encR (((L.take k) ++ [(x.1, x.2)]) ++ L.drop k))) :: (SX.row (.slice sa.A sa.n sa.c) 96 2 (encR L)) :: (SX.blk b1 [iv x.1, iv x.2] 96) :: Rs)) ?_ ?_))
  ·
   refine xQ 13 13 (hS.pickN 2 [1]) hS fun w hS => ?_;refine jZ (k := 11) [(1, 56, .slice sa.A sa.n sa.c), (2, 57, iv (k : Int))] ha (.inr (hS.pickN 2 [1])) fun a ha => ?_;refine yY 3 (.slice sa.A k sa.c) ha (v_takeZ (el := 96) (j := k) ha (yU (op := (Op.slice 54 (Operand.tmp 56) none (some (Operand.tmp 57)) none)) (d := some 58) (ty := 54)) rfl rfl (by kernel_rfl) (by kernel_rfl) rfl (by omega) hac) (.inr (hS.pickN 2 [1])) fun a ha => ?_;refine yJ 5 60 ha (hS.pickN 2 [1]) (fun _ hw => hw.blk 0 rfl) fun a ha => ?_;refine jZ (k := 7) [(8, 63, .slice sa.A sa.n sa.c), (9, 64, iv (k : Int))] ha (.inr (hS.pickN 2 [1])) fun a ha => ?_;refine yY 10 (.slice (tailA sa.A k 2 sa.c) (sa.n - k) (sa.c - k)) ha (v_dropZ (el := 96) (sz := 2) (j := k) ha (yU (op := (Op.slice 54 (Operand.tmp 63) (some (Operand.tmp 64)) none none)) (d := some 65) (ty := 54)) rfl rfl (by kernel_rfl) (by kernel_rfl) rfl (by omega) hac) (.inr (hS.pickN 2 [1])) fun a ha => ?_;refine d_all (rs := [0, 6]) (by kernel_rfl) (by simp) (forall_mem_2 ?_ ?_)
   ·
    refine id (qV 55 [] 96 (fun b => .slice (some ⟨b, 0, none⟩) 0 0) ha hS fun b43 w a hb44 hS ha => ?_);refine ⟨.inr (hS.pickN 3 [2]), ?_⟩;refine d_all (rs := [4, 6]) (by kernel_rfl) (by simp) (forall_mem_2 ?_ ?_)
    ·
     refine id (o_appRow0 (m := k) (z := .agg #[iv 0, iv 0]) (sz := 2) (bytes := 16) (ys' := encR (L.take k)) 0 1 ha (by decide) (yU (op := (Op.call { callee := (Callee.builtin Builtin.append), args := #[(Operand.tmp 55), (Operand.tmp 58)], argTypes := #[54, 54] })) (d := some 59) (ty := 54)) rfl rfl (by kernel_rfl) (by kernel_rfl) rfl (by decide) hS rfl rfl (by omega) (encR_one _) (by rw [encR_length]; omega) (by decide) (encR_take _ _) fun s45 w a hS hn46 ha => ?_);refine ⟨.inr (hS.pickN 3 [2]), ?_⟩;refine jU 6 (qV 61 [iv x.1, iv x.2] 96 (fun b => .slice (some ⟨b, 0, none⟩) 1 1) ha hS fun b47 w a hb48 hS ha => ?_);refine ⟨.inr (hS.pickN 4 [3]), ?_⟩;refine jU 7 (o_ap 62 1 0 (encR ((L.take k) ++ [(x.1, x.2)])) ha hS rfl rfl (by rw [encR_length, List.length_take]; simp only [List.length_cons, List.length_nil]; omega) (encR_snoc _ _ _) fun s52 w a hS hn53 ha => ?_);refine ⟨.inr (hS.pickN 4 [3]), ?_⟩;refine jU 11 (o_appT (j := k) (un := sa.n) (c := sa.c) (A := sa.A) (z := .agg #[iv 0, iv 0]) (sz := 2) (bytes := 16) (xs' := encR (((L.take k) ++ [(x.1, x.2)]) ++ L.drop k)) 1 2 ha (by decide) (yU (op := (Op.call { callee := (Callee.builtin Builtin.append), args := #[(Operand.tmp 62), (Operand.tmp 65)], argTypes := #[54, 54] })) (d := some 66) (ty := 54)) rfl rfl (by kernel_rfl) (by kernel_rfl) rfl (by decide) hS rfl rfl (by omega) (encR_one _) (by rw [encR_length, encR_length]; simp only [List.length_append, List.length_take, List.length_cons, List.length_nil]; omega) (by decide) (encR_tail hk) fun s54 w a hS ha => ?_);refine ⟨.inr (hS.pickN 4 [3]), ?_⟩;refine jZ (k := 0) [(12, 4, .slice s54.A s54.n s54.c)] ha (.inr (hS.pickN 4 [3])) fun a ha => ?_;refine qU ?_;replace ha := ha.as [(4, .slice s54.A s54.n s54.c)] rfl;replace hS : Sat w0 w ((SX.blk b47 [iv x.1, iv x.2] 96) :: (SX.row (.slice s54.A s54.n s54.c) 96 2 (encR (((L.take k) ++ [(x.1, x.2)]) ++ L.drop k))) :: (SX.row (.slice sa.A sa.n sa.c) 96 2 (encR L)) :: (SX.blk b1 [iv x.1, iv x.2] 96) :: Rs) := hS;exact jJ ⟨s54, b47, ha.keeps [4] _ rfl, hS⟩
    refine id (qV 61 [iv x.1, iv x.2] 96 (fun b => .slice (some ⟨b, 0, none⟩) 1 1) ha hS fun b55 w a hb56 hS ha => ?_);refine ⟨.inr (hS.pickN 4 [3]), ?_⟩;refine jU 4 (o_appRow0 (m := k) (z := .agg #[iv 0, iv 0]) (sz := 2) (bytes := 16) (ys' := encR (L.take k)) 1 2 ha (by decide) (yU (op := (Op.call { callee := (Callee.builtin Builtin.append), args := #[(Operand.tmp 55), (Operand.tmp 58)], argTypes := #[54, 54] })) (d := some 59) (ty := 54)) rfl rfl (by kernel_rfl) (by kernel_rfl) rfl (by decide) hS rfl rfl (by omega) (encR_one _) (by rw [encR_length]; omega) (by decide) (encR_take _ _) fun s57 w a hS hn58 ha => ?_);refine ⟨.inr (hS.pickN 4 [3]), ?_⟩;refine jU 7 (o_ap 62 1 0 (encR ((L.take k) ++ [(x.1, x.2)])) ha hS rfl rfl (by rw [encR_length, List.length_take]; simp only [List.length_cons, List.length_nil]; omega) (encR_snoc _ _ _) fun s62 w a hS hn63 ha => ?_);refine ⟨.inr (hS.pickN 4 [3]), ?_⟩;refine jU 11 (o_appT (j := k) (un := sa.n) (c := sa.c) (A := sa.A) (z := .agg #[iv 0, iv 0]) (sz := 2) (bytes := 16) (xs' := encR (((L.take k) ++ [(x.1, x.2)]) ++ L.drop k)) 1 2 ha (by decide) (yU (op := (Op.call { callee := (Callee.builtin Builtin.append), args := #[(Operand.tmp 62), (Operand.tmp 65)], argTypes := #[54, 54] })) (d := some 66) (ty := 54)) rfl rfl (by kernel_rfl) (by kernel_rfl) rfl (by decide) hS rfl rfl (by omega) (encR_one _) (by rw [encR_length, encR_length]; simp only [List.length_append, List.length_take, List.length_cons, List.length_nil]; omega) (by decide) (encR_tail hk) fun s64 w a hS ha => ?_);refine ⟨.inr (hS.pickN 4 [3]), ?_⟩;refine jZ (k := 0) [(12, 4, .slice s64.A s64.n s64.c)] ha (.inr (hS.pickN 4 [3])) fun a ha => ?_;refine qU ?_;replace ha := ha.as [(4, .slice s64.A s64.n s64.c)] rfl;replace hS : Sat w0 w ((SX.blk b55 [iv x.1, iv x.2] 96) :: (SX.row (.slice s64.A s64.n s64.c) 96 2 (encR (((L.take k) ++ [(x.1, x.2)]) ++ L.drop k))) :: (SX.row (.slice sa.A sa.n sa.c) 96 2 (encR L)) :: (SX.blk b1 [iv x.1, iv x.2] 96) :: Rs) := hS;exact jJ ⟨s64, b55, ha.keeps [4] _ rfl, hS⟩
   refine id (qV 61 [iv x.1, iv x.2] 96 (fun b => .slice (some ⟨b, 0, none⟩) 1 1) ha hS fun b65 w a hb66 hS ha => ?_);refine ⟨.inr (hS.pickN 3 [2]), ?_⟩;refine jU 0 (qV 55 [] 96 (fun b => .slice (some ⟨b, 0, none⟩) 0 0) ha hS fun b67 w a hb68 hS ha => ?_);refine ⟨.inr (hS.pickN 4 [3]), ?_⟩;refine jU 4 (o_appRow0 (m := k) (z := .agg #[iv 0, iv 0]) (sz := 2) (bytes := 16) (ys' := encR (L.take k)) 0 2 ha (by decide) (yU (op := (Op.call { callee := (Callee.builtin Builtin.append), args := #[(Operand.tmp 55), (Operand.tmp 58)], argTypes := #[54, 54] })) (d := some 59) (ty := 54)) rfl rfl (by kernel_rfl) (by kernel_rfl) rfl (by decide) hS rfl rfl (by omega) (encR_one _) (by rw [encR_length]; omega) (by decide) (encR_take _ _) fun s69 w a hS hn70 ha => ?_);refine ⟨.inr (hS.pickN 4 [3]), ?_⟩;refine jU 7 (o_ap 62 0 1 (encR ((L.take k) ++ [(x.1, x.2)])) ha hS rfl rfl (by rw [encR_length, List.length_take]; simp only [List.length_cons, List.length_nil]; omega) (encR_snoc _ _ _) fun s74 w a hS hn75 ha => ?_);refine ⟨.inr (hS.pickN 4 [3]), ?_⟩;refine jU 11 (o_appT (j := k) (un := sa.n) (c := sa.c) (A := sa.A) (z := .agg #[iv 0, iv 0]) (sz := 2) (bytes := 16) (xs' := encR (((L.take k) ++ [(x.1, x.2)]) ++ L.drop k)) 0 2 ha (by decide) (yU (op := (Op.call { callee := (Callee.builtin Builtin.append), args := #[(Operand.tmp 62), (Operand.tmp 65)], argTypes := #[54, 54] })) (d := some 66) (ty := 54)) rfl rfl (by kernel_rfl) (by kernel_rfl) rfl (by decide) hS rfl rfl (by omega) (encR_one _) (by rw [encR_length, encR_length]; simp only [List.length_append, List.length_take, List.length_cons, List.length_nil]; omega) (by decide) (encR_tail hk) fun s76 w a hS ha => ?_);refine ⟨.inr (hS.pickN 4 [3]), ?_⟩;refine jZ (k := 0) [(12, 4, .slice s76.A s76.n s76.c)] ha (.inr (hS.pickN 4 [3])) fun a ha => ?_;refine qU ?_;replace ha := ha.as [(4, .slice s76.A s76.n s76.c)] rfl;replace hS := hS.pickN 4 [1, 0, 2, 3];exact jJ ⟨s76, b65, ha.keeps [4] _ rfl, hS⟩
  rintro a w ⟨g2_0, g2_1, ha, hS⟩
  refine wp_ret (qG ha (by kernel_rfl) (xG (t := 4) ha rfl) ?_)
  have hE : putP L x = L.take k ++ [x] ++ L.drop k := put_new hk hless (fun y9 hy9 => by obtain rfl := Option.some.inj (hy9.symm.trans hy); exact ⟨by simp only [ltP, Bool.or_eq_false_iff, Bool.and_eq_false_iff, decide_eq_false_iff_not]; omega, c42⟩)
  rw [hE]
  have hn9 := hS.rowL (s := g2_0) (enc := cellsR) 1 qY (by decide) rfl
  exact ⟨g2_0, rfl, hn9, hS.pickN 4 [1], hS.pickN 4 [2]⟩
 replace ha := ha.turn 9 (.bool false) rfl (congrArg Value.bool (decide_eq_false c3))
 replace ha := ha.turn 10 (.bool false) rfl (congrArg Value.bool (decide_eq_false c3))
 refine jZ (k := 0) [(5, 11, undef), (6, 12, undef), (7, 13, undef), (8, 14, undef), (9, 15, undef), (10, 16, undef), (11, 17, undef), (12, 18, undef), (13, 19, undef), (14, 20, undef), (15, 21, undef), (16, 22, undef), (17, 23, undef), (18, 24, undef), (19, 25, undef), (20, 26, undef), (21, 27, undef), (22, 28, undef), (23, 29, undef), (24, 30, undef), (25, 31, undef), (26, 32, undef), (27, 33, undef), (28, 34, undef), (29, 35, undef), (30, 36, undef), (31, 37, undef), (32, 38, undef), (33, 39, .bool false)] ha (.inr hS) fun a ha => ?_
 refine qU (jJ ?_)
 refine jW ha rfl rfl ?_
 refine wp_exit (xW (xW (in_x (jJ (wp_seq (wp_seq (xY 12 12 hS fun w hS => ?_)))))))
 refine jZ (k := 7) [(0, 42, iv (k : Int)), (1, 43, .slice sa.A sa.n sa.c), (2, 44, iv (sa.n : Int)), (3, 45, .bool (decide ((k : Int) < (sa.n : Int)))), (4, 46, .bool (decide ((k : Int) < (sa.n : Int))))] ha (.inr hS) fun a ha => ?_
 replace ha := ha.turn 45 (.bool false) rfl (congrArg Value.bool (decide_eq_false c3))
 replace ha := ha.turn 46 (.bool false) rfl (congrArg Value.bool (decide_eq_false c3))
 refine jZ (k := 0) [(5, 47, undef), (6, 48, undef), (7, 49, undef), (8, 50, undef), (9, 51, undef), (10, 52, undef), (11, 53, .bool false)] ha (.inr hS) fun a ha => ?_
 refine qU ?_
 replace ha := ha.as [(0, .slice sa.A sa.n sa.c), (3, ptr b1 0), (4, .slice none 0 0), (5, iv (k : Int)), (53, .bool false)] rfl
 refine jJ ?_
 refine jW ha rfl rfl ?_
 refine wp_skip (jJ (kW (J := fun a_ w_ => ∃ (g3_0 : Sl) (g3_1 : Nat), Has 67 [(4, .slice g3_0.A g3_0.n g3_0.c)] a_ ∧ Sat w0 w_ ((SX.blk g3_1 [iv x.1, iv x.2] 96) :: (SX.row (.slice g3_0.A g3_0.n g3_0.c) 96 2 (encR (((L.take k) ++ [(x.1, x.2)]) ++ L.drop k))) :: (SX.row (.slice sa.A sa.n sa.c) 96 2 (encR L)) :: (SX.blk b1 [iv x.1, iv x.2] 96) :: Rs)) ?_ ?_))
 ·
  refine xQ 13 13 (hS.pickN 2 [1]) hS fun w hS => ?_
  refine jZ (k := 11) [(1, 56, .slice sa.A sa.n sa.c), (2, 57, iv (k : Int))] ha (.inr (hS.pickN 2 [1])) fun a ha => ?_
  refine yY 3 (.slice sa.A k sa.c) ha (v_takeZ (el := 96) (j := k) ha (yU (op := (Op.slice 54 (Operand.tmp 56) none (some (Operand.tmp 57)) none)) (d := some 58) (ty := 54)) rfl rfl (by kernel_rfl) (by kernel_rfl) rfl (by omega) hac) (.inr (hS.pickN 2 [1])) fun a ha => ?_
  refine yJ 5 60 ha (hS.pickN 2 [1]) (fun _ hw => hw.blk 0 rfl) fun a ha => ?_
  refine jZ (k := 7) [(8, 63, .slice sa.A sa.n sa.c), (9, 64, iv (k : Int))] ha (.inr (hS.pickN 2 [1])) fun a ha => ?_
  refine yY 10 (.slice (tailA sa.A k 2 sa.c) (sa.n - k) (sa.c - k)) ha (v_dropZ (el := 96) (sz := 2) (j := k) ha (yU (op := (Op.slice 54 (Operand.tmp 63) (some (Operand.tmp 64)) none none)) (d := some 65) (ty := 54)) rfl rfl (by kernel_rfl) (by kernel_rfl) rfl (by omega) hac) (.inr (hS.pickN 2 [1])) fun a ha => ?_
  refine d_all (rs := [0, 6]) (by kernel_rfl) (by simp) (forall_mem_2 ?_ ?_)
  ·
   refine id (qV 55 [] 96 (fun b => .slice (some ⟨b, 0, none⟩) 0 0) ha hS fun b77 w a hb78 hS ha => ?_);refine ⟨.inr (hS.pickN 3 [2]), ?_⟩;refine d_all (rs := [4, 6]) (by kernel_rfl) (by simp) (forall_mem_2 ?_ ?_)
   ·
    refine id (o_appRow0 (m := k) (z := .agg #[iv 0, iv 0]) (sz := 2) (bytes := 16) (ys' := encR (L.take k)) 0 1 ha (by decide) (yU (op := (Op.call { callee := (Callee.builtin Builtin.append), args := #[(Operand.tmp 55), (Operand.tmp 58)], argTypes := #[54, 54] })) (d := some 59) (ty := 54)) rfl rfl (by kernel_rfl) (by kernel_rfl) rfl (by decide) hS rfl rfl (by omega) (encR_one _) (by rw [encR_length]; omega) (by decide) (encR_take _ _) fun s79 w a hS hn80 ha => ?_);refine ⟨.inr (hS.pickN 3 [2]), ?_⟩;refine jU 6 (qV 61 [iv x.1, iv x.2] 96 (fun b => .slice (some ⟨b, 0, none⟩) 1 1) ha hS fun b81 w a hb82 hS ha => ?_);refine ⟨.inr (hS.pickN 4 [3]), ?_⟩;refine jU 7 (o_ap 62 1 0 (encR ((L.take k) ++ [(x.1, x.2)])) ha hS rfl rfl (by rw [encR_length, List.length_take]; simp only [List.length_cons, List.length_nil]; omega) (encR_snoc _ _ _) fun s86 w a hS hn87 ha => ?_);refine ⟨.inr (hS.pickN 4 [3]), ?_⟩;refine jU 11 (o_appT (j := k) (un := sa.n) (c := sa.c) (A := sa.A) (z := .agg #[iv 0, iv 0]) (sz := 2) (bytes := 16) (xs' := encR (((L.take k) ++ [(x.1, x.2)]) ++ L.drop k)) 1 2 ha (by decide) (yU (op := (Op.call { callee := (Callee.builtin Builtin.append), args := #[(Operand.tmp 62), (Operand.tmp 65)], argTypes := #[54, 54] })) (d := some 66) (ty := 54)) rfl rfl (by kernel_rfl) (by kernel_rfl) rfl (by decide) hS rfl rfl (by omega) (encR_one _) (by rw [encR_length, encR_length]; simp only [List.length_append, List.length_take, List.length_cons, List.length_nil]; omega) (by decide) (encR_tail hk) fun s88 w a hS ha => ?_);refine ⟨.inr (hS.pickN 4 [3]), ?_⟩;refine jZ (k := 0) [(12, 4, .slice s88.A s88.n s88.c)] ha (.inr (hS.pickN 4 [3])) fun a ha => ?_;refine qU ?_;replace ha := ha.as [(4, .slice s88.A s88.n s88.c)] rfl;replace hS : Sat w0 w ((SX.blk b81 [iv x.1, iv x.2] 96) :: (SX.row (.slice s88.A s88.n s88.c) 96 2 (encR (((L.take k) ++ [(x.1, x.2)]) ++ L.drop k))) :: (SX.row (.slice sa.A sa.n sa.c) 96 2 (encR L)) :: (SX.blk b1 [iv x.1, iv x.2] 96) :: Rs) := hS;exact jJ ⟨s88, b81, ha.keeps [4] _ rfl, hS⟩
   refine id (qV 61 [iv x.1, iv x.2] 96 (fun b => .slice (some ⟨b, 0, none⟩) 1 1) ha hS fun b89 w a hb90 hS ha => ?_);refine ⟨.inr (hS.pickN 4 [3]), ?_⟩;refine jU 4 (o_appRow0 (m := k) (z := .agg #[iv 0, iv 0]) (sz := 2) (bytes := 16) (ys' := encR (L.take k)) 1 2 ha (by decide) (yU (op := (Op.call { callee := (Callee.builtin Builtin.append), args := #[(Operand.tmp 55), (Operand.tmp 58)], argTypes := #[54, 54] })) (d := some 59) (ty := 54)) rfl rfl (by kernel_rfl) (by kernel_rfl) rfl (by decide) hS rfl rfl (by omega) (encR_one _) (by rw [encR_length]; omega) (by decide) (encR_take _ _) fun s91 w a hS hn92 ha => ?_);refine ⟨.inr (hS.pickN 4 [3]), ?_⟩;refine jU 7 (o_ap 62 1 0 (encR ((L.take k) ++ [(x.1, x.2)])) ha hS rfl rfl (by rw [encR_length, List.length_take]; simp only [List.length_cons, List.length_nil]; omega) (encR_snoc _ _ _) fun s96 w a hS hn97 ha => ?_);refine ⟨.inr (hS.pickN 4 [3]), ?_⟩;refine jU 11 (o_appT (j := k) (un := sa.n) (c := sa.c) (A := sa.A) (z := .agg #[iv 0, iv 0]) (sz := 2) (bytes := 16) (xs' := encR (((L.take k) ++ [(x.1, x.2)]) ++ L.drop k)) 1 2 ha (by decide) (yU (op := (Op.call { callee := (Callee.builtin Builtin.append), args := #[(Operand.tmp 62), (Operand.tmp 65)], argTypes := #[54, 54] })) (d := some 66) (ty := 54)) rfl rfl (by kernel_rfl) (by kernel_rfl) rfl (by decide) hS rfl rfl (by omega) (encR_one _) (by rw [encR_length, encR_length]; simp only [List.length_append, List.length_take, List.length_cons, List.length_nil]; omega) (by decide) (encR_tail hk) fun s98 w a hS ha => ?_);refine ⟨.inr (hS.pickN 4 [3]), ?_⟩;refine jZ (k := 0) [(12, 4, .slice s98.A s98.n s98.c)] ha (.inr (hS.pickN 4 [3])) fun a ha => ?_;refine qU ?_;replace ha := ha.as [(4, .slice s98.A s98.n s98.c)] rfl;replace hS : Sat w0 w ((SX.blk b89 [iv x.1, iv x.2] 96) :: (SX.row (.slice s98.A s98.n s98.c) 96 2 (encR (((L.take k) ++ [(x.1, x.2)]) ++ L.drop k))) :: (SX.row (.slice sa.A sa.n sa.c) 96 2 (encR L)) :: (SX.blk b1 [iv x.1, iv x.2] 96) :: Rs) := hS;exact jJ ⟨s98, b89, ha.keeps [4] _ rfl, hS⟩
  refine id (qV 61 [iv x.1, iv x.2] 96 (fun b => .slice (some ⟨b, 0, none⟩) 1 1) ha hS fun b99 w a hb100 hS ha => ?_)
  refine ⟨.inr (hS.pickN 3 [2]), ?_⟩
  refine jU 0 (qV 55 [] 96 (fun b => .slice (some ⟨b, 0, none⟩) 0 0) ha hS fun b101 w a hb102 hS ha => ?_)
  refine ⟨.inr (hS.pickN 4 [3]), ?_⟩
  refine jU 4 (o_appRow0 (m := k) (z := .agg #[iv 0, iv 0]) (sz := 2) (bytes := 16) (ys' := encR (L.take k)) 0 2 ha (by decide) (yU (op := (Op.call { callee := (Callee.builtin Builtin.append), args := #[(Operand.tmp 55), (Operand.tmp 58)], argTypes := #[54, 54] })) (d := some 59) (ty := 54)) rfl rfl (by kernel_rfl) (by kernel_rfl) rfl (by decide) hS rfl rfl (by omega) (encR_one _) (by rw [encR_length]; omega) (by decide) (encR_take _ _) fun s103 w a hS hn104 ha => ?_)
  refine ⟨.inr (hS.pickN 4 [3]), ?_⟩
  refine jU 7 (o_ap 62 0 1 (encR ((L.take k) ++ [(x.1, x.2)])) ha hS rfl rfl (by rw [encR_length, List.length_take]; simp only [List.length_cons, List.length_nil]; omega) (encR_snoc _ _ _) fun s108 w a hS hn109 ha => ?_)
  refine ⟨.inr (hS.pickN 4 [3]), ?_⟩
  refine jU 11 (o_appT (j := k) (un := sa.n) (c := sa.c) (A := sa.A) (z := .agg #[iv 0, iv 0]) (sz := 2) (bytes := 16) (xs' := encR (((L.take k) ++ [(x.1, x.2)]) ++ L.drop k)) 0 2 ha (by decide) (yU (op := (Op.call { callee := (Callee.builtin Builtin.append), args := #[(Operand.tmp 62), (Operand.tmp 65)], argTypes := #[54, 54] })) (d := some 66) (ty := 54)) rfl rfl (by kernel_rfl) (by kernel_rfl) rfl (by decide) hS rfl rfl (by omega) (encR_one _) (by rw [encR_length, encR_length]; simp only [List.length_append, List.length_take, List.length_cons, List.length_nil]; omega) (by decide) (encR_tail hk) fun s110 w a hS ha => ?_)
  refine ⟨.inr (hS.pickN 4 [3]), ?_⟩
  refine jZ (k := 0) [(12, 4, .slice s110.A s110.n s110.c)] ha (.inr (hS.pickN 4 [3])) fun a ha => ?_
  refine qU ?_
  replace ha := ha.as [(4, .slice s110.A s110.n s110.c)] rfl
  replace hS := hS.pickN 4 [1, 0, 2, 3]
  exact jJ ⟨s110, b99, ha.keeps [4] _ rfl, hS⟩
 rintro a w ⟨g3_0, g3_1, ha, hS⟩
 refine wp_ret (qG ha (by kernel_rfl) (xG (t := 4) ha rfl) ?_)
 have hE : putP L x = L.take k ++ [x] ++ L.drop k := put_new hk hless (fun y9 hy9 => by rw [List.getElem?_eq_none (by omega)] at hy9; cases hy9)
 rw [hE]
 have hn9 := hS.rowL (s := g3_0) (enc := cellsR) 1 qY (by decide) rfl
 exact ⟨g3_0, rfl, hn9, hS.pickN 4 [1], hS.pickN 4 [2]⟩
theorem put1_sat {w0 w : World} {Rs : List Asn} {sa : Sl} {L : List (Int × Int)} {x : Int × Int} (hS : Sat w0 w (rS sa L :: Rs)) (hL : L.length ≤ 1000000) :
  Calls Try.prog 70 #[.slice sa.A sa.n sa.c, .agg #[.int .i64 x.1, .int .i64 x.2]] w (Ret fun r w' => ∃ o : Sl, r = .slice o.A o.n o.c ∧ Sat w0 w' (rS o (putP L x) :: Rs)) :=
 (put_sat hS hL).mono fun e w' h => by
  cases e with
  | returned r => obtain ⟨o, h1, _, h2, _⟩ := h; exact ⟨o, h1, h2⟩
  | _ => exact h.elim
theorem code64 : Try.f64.body = some (Code.seq (cr Try.f64 0 false) (Code.seq (cr Try.f64 1 false) (Code.seq (Code.seq (cr Try.f64 2 false) (Code.block 0 (Code.loop (Code.seq (Code.seq (cr Try.f64 3 false) (Code.cond (Operand.tmp 26) Code.skip (Code.exit 0))) (Code.seq (Code.block 1 (cr Try.f64 5 false)) (cr Try.f64 4 false)))))) (Code.seq (cr Try.f64 6 false) Code.ret)))) := by kernel_rfl
theorem made_sat {w0 w : World} {Rs : List Asn} {sa : Sl} {L : List (Int × Int)} {s : Sl} {l : List (List ST)} {f arg fuel : Int} (hS : Sat w0 w (rS sa L :: Rs)) (hr : RdP w0 s l) (ha9 : askB l f arg fuel = true) (hL : L.length ≤ 100000) :
  Calls Try.prog 64 #[.agg #[.slice s.A s.n s.c], iv f, iv arg, iv fuel, .slice sa.A sa.n sa.c] w (Ret fun r w' => ∃ o : Sl, r = .slice o.A o.n o.c ∧ Sat w0 w' (rS o (madeP L (rn l f arg fuel).m.places) :: Rs)) := by
 refine enter (n := 37) Try.func64 code64 (by kernel_rfl) (Nat.le_of_ble_eq_true rfl) (fun a ha => ?_)
 replace ha : Has 37 [(0, .agg #[.slice s.A s.n s.c]), (1, iv f), (2, iv arg), (3, iv fuel), (4, .slice sa.A sa.n sa.c)] a := ha
 refine wp_seq (jX [0, 1] (jK (qV 5 [.slice s.A s.n s.c] 35 (ptr · 0) ha hS fun b1 w a hb2 hS ha => ?_)))
 refine jQ [(1, 10, .slice none 0 0)] ha fun a ha => ?_
 refine jY (jJ (wp_seq (jX [0, 1, 2, 3, 4, 5, 6, 7, 8, 9, 10, 11] (zY 15 ha (hS.blk 0 rfl) fun a ha => ?_))))
 refine jQ [(1, 16, iv f), (2, 17, iv arg), (3, 18, iv fuel)] ha fun a ha => ?_
 refine jK (xJ 19 (vs := [.agg #[.slice s.A s.n s.c], iv f, iv arg, iv fuel]) ha (whole_sat hS (hr.sat hS) ha9) fun v3 w a hp4 ha => ?_)
 obtain ⟨q, o9, tr, se, df, rfl, hS⟩ := hp4
 refine jQ [(5, 14, .tuple #[.agg #[.slice o9.A o9.n o9.c, iv fuel, .bool q.1.spent, iv q.1.shared, iv q.1.made, iv q.1.deep, .slice tr.A tr.n tr.c, .slice se.A se.n se.c], .agg #[iv q.2.f, iv q.2.depth, iv q.2.r0, iv q.2.r1, iv q.2.r2, iv q.2.r3, .slice df.A df.n df.c, iv q.2.kind, iv q.2.value, .bool q.2.leaving, .bool q.2.deferred, .bool q.2.panicking, iv q.2.panic, .bool q.2.recovered, iv q.2.outer]]), (6, 20, .agg #[.slice o9.A o9.n o9.c, iv fuel, .bool q.1.spent, iv q.1.shared, iv q.1.made, iv q.1.deep, .slice tr.A tr.n tr.c, .slice se.A se.n se.c]), (7, 21, .agg #[iv q.2.f, iv q.2.depth, iv q.2.r0, iv q.2.r1, iv q.2.r2, iv q.2.r3, .slice df.A df.n df.c, iv q.2.kind, iv q.2.value, .bool q.2.leaving, .bool q.2.deferred, .bool q.2.panicking, iv q.2.panic, .bool q.2.recovered, iv q.2.outer])] ha fun a ha => ?_
 refine jK (qV 11 [.slice none 0 0, iv 0, .bool false, iv 0, iv 0, iv 0, .slice none 0 0, .slice none 0 0] 148 (ptr · 0) ha hS fun b5 w a hb6 hS ha => ?_)
 refine jK (qV 12 [iv 0, iv 0, iv 0, iv 0, iv 0, iv 0, .slice none 0 0, iv 0, iv 0, .bool false, .bool false, .bool false, iv 0, .bool false, iv 0] 151 (ptr · 0) ha hS fun b7 w a hb8 hS ha => ?_)
 refine jK (o_sa 1 ha (xV (t := 148) (x := 11) (y := 20)) hS fun w a hS ha => ?_)
 refine jK (o_sa 0 ha (xV (t := 151) (x := 12) (y := 21)) hS fun w a hS ha => ?_)
 refine jY (jJ (wp_seq (wp_seq (jX [0] (jQ [(0, 13, iv 0)] ha fun a ha => ?_)))))
 refine jY (jJ (wp_block ?_))
 replace hS := hS.pickN 5 [1, 2, 4]
 have hsn : se.n = (rn l f arg fuel).m.places.length := hS.rowL (s := se) (enc := cellsR) 1 qY (by decide) rfl
 have hpl := places_len ha9
 refine wp_loop_ghost (fun n_ a_ w_ => ∃ (i : Nat) (o : Sl), n_ = (rn l f arg fuel).m.places.length - i ∧ (i ≤ (rn l f arg fuel).m.places.length) ∧ Has 37 [(10, .slice none 0 0), (11, ptr b5 0), (4, .slice o.A o.n o.c), (13, iv (i : Int))] a_ ∧ Sat w0 w_ ((SX.blk b5 [.slice o9.A o9.n o9.c, iv fuel, .bool q.1.spent, iv q.1.shared, iv q.1.made, iv q.1.deep, .slice tr.A tr.n tr.c, .slice se.A se.n se.c] 148) :: (SX.row (.slice se.A se.n se.c) 96 2 (encR ((rn l f arg fuel).m.places))) :: (SX.row (.slice o.A o.n o.c) 96 2 (encR (madeP L ((rn l f arg fuel).m.places.take i)))) :: Rs)) _ ⟨0, sa, rfl, Nat.zero_le _, ha.keeps [10, 11, 4, 13] _ rfl, hS⟩ ?_
 rintro n_ a w ⟨i, o, rfl, hi, ha, hS⟩
 refine wp_seq (wp_seq (jX [0, 1, 2, 3, 4] (jQ [(0, 22, iv (i : Int)), (1, 23, ptr b5 7)] ha fun a ha => ?_)))
 refine qQ (d := 24) (b := b5) (j := 7) ha (hS.blk 0 rfl) rfl fun a ha => ?_
 refine jQ [(3, 25, iv (se.n : Int)), (4, 26, .bool (decide ((i : Int) < (se.n : Int))))] ha fun a ha => ?_
 refine jY (jJ ?_)
 by_cases c9 : (i : Int) < (se.n : Int)
 ·
  obtain ⟨z, hz⟩ : ∃ z, (rn l f arg fuel).m.places[i]? = some z := ⟨_, List.getElem?_eq_getElem (by omega)⟩
  refine jV ha rfl (decide_eq_true c9) ?_
  refine wp_skip (jJ (wp_seq (wp_block (jX [0, 1, 2, 3, 4, 5, 6, 7] (jQ [(0, 29, .slice o.A o.n o.c), (1, 30, ptr b5 7)] ha fun a ha => ?_)))))
  refine qQ (d := 31) (b := b5) (j := 7) ha (hS.blk 0 rfl) rfl fun a ha => ?_
  refine jQ [(3, 32, iv (i : Int))] ha fun a ha => ?_
  refine zQ (.pointer (some ⟨bk se, i * 2, none⟩)) ha (zX (s := se) (el := 96) (sz := 2) (j := i) ha (yH (t := 54) (x := 31) (y := 32) (d := 33)) rfl rfl (by kernel_rfl) (by kernel_rfl) (hS.rowA (s := se) 1 rfl (by have := (List.getElem?_eq_some_iff.1 hz).1; rw [encR_length]; omega)) (rfl) (by have h9 := hS.rowL (s := se) (enc := cellsR) 1 qY (by decide) rfl; have := (List.getElem?_eq_some_iff.1 hz).1; omega)) fun a ha => ?_
  refine zQ (.agg #[iv z.1, iv z.2]) ha (v_loadL ha (zV (t := 96) (x := 33) (d := 34) (ty := 96)) rfl (fun w' hw => by rw [hw]; exact run_loadVar_agg (vs := [iv z.1, iv z.2]) (by kernel_rfl) (fun i u hu => by match i, hu with | 0, hu => rw [add0]; rw [← Option.some.inj hu]; exact ((hS.rdC (s := se) 1 rfl).cells _ _ ((flat_get (enc := cellsR) (o := 0) qY hz (by decide)).trans rfl)) | 1, hu => rw [add0]; rw [← Option.some.inj hu]; exact ((hS.rdC (s := se) 1 rfl).cells _ _ ((flat_get (enc := cellsR) (o := 1) qY hz (by decide)).trans rfl)) | n + 2, hu => simp at hu))) fun a ha => ?_
  replace hS := hS.pickN 3 [2, 0, 1]
  refine jK (xJ 35 (vs := [.slice o.A o.n o.c, .agg #[iv z.1, iv z.2]]) ha (put1_sat (x := z) hS (by have := madeP_len ((rn l f arg fuel).m.places.take i) L; rw [List.length_take] at this; omega)) fun v10 w a hp11 ha => ?_)
  obtain ⟨po1, rfl, hS⟩ := hp11
  refine jQ [(7, 4, .slice po1.A po1.n po1.c)] ha fun a ha => ?_
  refine jY (in_n (jJ (jX [0, 1, 2] (jQ [(0, 27, iv (i : Int))] ha fun a ha => ?_))))
  refine zZ 28 ((i : Int) + 1) ha fun a ha => ?_
  refine jQ [(2, 13, iv ((i : Int) + 1))] ha fun a ha => ?_
  refine jY (jJ ?_)
  replace hS := hS.pickN 3 [1, 2, 0]
  replace hS : Sat w0 w ((SX.blk b5 [.slice o9.A o9.n o9.c, iv fuel, .bool q.1.spent, iv q.1.shared, iv q.1.made, iv q.1.deep, .slice tr.A tr.n tr.c, .slice se.A se.n se.c] 148) :: (SX.row (.slice se.A se.n se.c) 96 2 (encR ((rn l f arg fuel).m.places))) :: (SX.row (.slice po1.A po1.n po1.c) 96 2 (encR (madeP L ((rn l f arg fuel).m.places.take (i + 1))))) :: Rs) := by rw [madeP_take hz]; exact hS
  exact ⟨_, by omega, i + 1, po1, rfl, by omega, ha.keeps [10, 11, 4, 13] _ rfl, hS⟩
 refine jW ha rfl (decide_eq_false c9) ?_
 refine wp_exit (xW (xW (in_x (jJ (wp_seq (jX [0, 1] (jQ [(0, 36, .slice o.A o.n o.c), (1, 10, .slice o.A o.n o.c)] ha fun a ha => ?_)))))))
 refine jY ?_
 replace ha := ha.as [(10, .slice o.A o.n o.c)] rfl
 refine jJ (wp_ret (qG ha (by kernel_rfl) (xG (t := 10) ha rfl) ?_))
 have hie : i = (rn l f arg fuel).m.places.length := by omega
 rw [hie, List.take_length] at hS
 exact ⟨o, rfl, hS.pickN 3 [2]⟩
theorem code66 : Try.f66.body = some (Code.seq (cr Try.f66 0 false) (Code.seq (cr Try.f66 1 false) (Code.seq (Code.seq (cr Try.f66 2 false) (Code.block 0 (Code.loop (Code.seq (cr Try.f66 3 false) (Code.seq (Code.cond (Operand.tmp 15) Code.skip (Code.exit 0)) (Code.seq (Code.block 1 (Code.seq (cr Try.f66 4 false) (Code.seq (cr Try.f66 5 false) (Code.block 2 (Code.loop (Code.seq (cr Try.f66 6 false) (Code.seq (Code.cond (Operand.tmp 22) Code.skip (Code.exit 2)) (Code.seq (Code.block 3 (Code.seq (cr Try.f66 7 false) (Code.seq (cr Try.f66 8 false) (Code.seq (cr Try.f66 9 false) (Code.cond (Operand.tmp 29) (cr Try.f66 10 false) Code.skip))))) (cr Try.f66 11 false))))))))) (cr Try.f66 12 false))))))) (Code.seq (cr Try.f66 13 false) Code.ret)))) := by kernel_rfl
theorem places_sat {w0 w : World} {Rs : List Asn} {s : Sl} {l : List (List ST)} {F : Nat} {fn : Func} {cap : List Value} {is : Int × Int → Bool} (hS : Sat w0 w Rs) (hr : RdP w0 s l) (h6 : l.length ≤ 6) (h8 : ∀ b ∈ l, b.length ≤ 8) (hfn : Try.prog.funcs[F]? = some fn) (hbn : (fn.body.isNone || fn.name == "runtime.NumGoroutine") = false)
  (hcl : ∀ (w1 : World) (Xs : List Asn) (g a : Nat) (b : List ST), l[g]? = some b → a < b.length → Sat w0 w1 (Xs ++ Rs) → Calls Try.prog F (.agg #[.int .i64 (g : Int), .int .i64 (a : Int)] :: cap).toArray w1 (Ret fun r w' => r = .bool (is ((g : Int), (a : Int))) ∧ Sat w0 w' (Xs ++ Rs))) :
  Calls Try.prog 66 #[.agg #[.slice s.A s.n s.c], .func (.func F) #[] cap.toArray] w (Ret fun r w' => ∃ o : Sl, r = .slice o.A o.n o.c ∧ Sat w0 w' (rS o (plL is l) :: Rs)) := by
 have hsn := hr.len
 refine enter (n := 37) Try.func66 code66 (by kernel_rfl) (Nat.le_of_ble_eq_true rfl) (fun a ha => ?_)
 replace ha : Has 37 [(0, .agg #[.slice s.A s.n s.c]), (1, (.func (.func F) #[] cap.toArray))] a := ha
 refine wp_seq (jX [0, 1] (jK (qV 2 [.slice s.A s.n s.c] 35 (ptr · 0) ha hS fun b1 w a hb2 hS ha => ?_)))
 refine jQ [(1, 4, .slice none 0 0)] ha fun a ha => ?_
 refine jY (jJ (wp_seq (jX [0, 1] (jK (qV 10 [] 96 (fun b => .slice (some ⟨b, 0, none⟩) 0 0) ha hS fun b3 w a hb4 hS ha => ?_)))))
 refine jQ [(1, 5, .slice (some ⟨b3, 0, none⟩) 0 0)] ha fun a ha => ?_
 refine jY (jJ (wp_seq (wp_seq (jX [0, 1, 2, 3] (jQ [(0, 11, ptr b1 0)] ha fun a ha => ?_)))))
 refine qQ (d := 12) (b := b1) (j := 0) ha (hS.blk 1 rfl) rfl fun a ha => ?_
 refine jQ [(2, 13, iv (s.n : Int)), (3, 14, iv 0)] ha fun a ha => ?_
 refine jY (jJ (wp_block ?_))
 replace hS := hS.blk0 2 0 rfl
 replace hS := hS.pickN 2 [0]
 refine wp_loop_ghost (fun n_ a_ w_ => ∃ (g : Nat) (o : Sl), n_ = l.length - g ∧ (g ≤ l.length) ∧ Has 37 [(1, (.func (.func F) #[] cap.toArray)), (4, .slice none 0 0), (12, .slice s.A s.n s.c), (13, iv (s.n : Int)), (5, .slice o.A o.n o.c), (14, iv (g : Int))] a_ ∧ Sat w0 w_ ((SX.row (.slice o.A o.n o.c) 96 2 (encR (plN is l g 0))) :: Rs)) _ ⟨0, ⟨some ⟨b3, 0, none⟩, 0, 0⟩, rfl, Nat.zero_le _, ha.keeps [1, 4, 12, 13, 5, 14] _ rfl, hS⟩ ?_
 rintro n_ a w ⟨g, o, rfl, hg, ha, hS⟩
 refine wp_seq (jX [0] (jQ [(0, 15, .bool (decide ((g : Int) < (s.n : Int))))] ha fun a ha => ?_))
 refine jY (jJ (wp_seq ?_))
 by_cases c5 : (g : Int) < (s.n : Int)
 ·
  have hlt : g < l.length := by omega
  obtain ⟨b, hb⟩ : ∃ b, l[g]? = some b := ⟨_, List.getElem?_eq_getElem hlt⟩
  have hb8 := h8 b (List.mem_of_getElem? hb)
  obtain ⟨hA2, A2, c2, hc2, hl2, _⟩ := rows_cells hr.rd g b hb
  refine jV ha rfl (decide_eq_true c5) ?_
  refine wp_skip (jJ (wp_seq (wp_block (wp_seq (jX [0, 1, 2, 3, 4] (jQ [(0, 16, iv (g : Int))] ha fun a ha => ?_))))))
  refine zQ (.pointer (some ⟨bk s, of_ s + g * 1, none⟩)) ha (kQ (s := s) (el := 109) (sz := 1) (j := g) ha (yH (t := 33) (x := 12) (y := 14) (d := 17)) rfl rfl (by kernel_rfl) (by kernel_rfl) hA2 (by omega)) fun a ha => ?_
  refine zQ (.slice A2 b.length c2) ha (zU (p := ⟨bk s, of_ s + g * 1, none⟩) ha (zV (t := 109) (x := 17) (d := 18) (ty := 109)) rfl (by kernel_rfl) (fun w' hw => by rw [hw, Nat.mul_one]; exact pw_cell_below hS.below hc2)) fun a ha => ?_
  refine jQ [(3, 6, iv (g : Int)), (4, 7, .slice A2 b.length c2)] ha fun a ha => ?_
  refine jY (jJ (wp_seq (jX [0, 1, 2] (jQ [(0, 19, .slice A2 b.length c2), (1, 20, iv (b.length : Int)), (2, 21, iv 0)] ha fun a ha => ?_))))
  refine jY (jJ (wp_block ?_))
  replace hS : Sat w0 w ((SX.row (.slice o.A o.n o.c) 96 2 (encR (plN is l g 0))) :: Rs) := hS
  refine wp_loop_ghost (fun n_ a_ w_ => ∃ (at_ : Nat) (o : Sl), n_ = b.length - at_ ∧ (at_ ≤ b.length) ∧ Has 37 [(1, (.func (.func F) #[] cap.toArray)), (4, .slice none 0 0), (12, .slice s.A s.n s.c), (13, iv (s.n : Int)), (14, iv (g : Int)), (15, .bool (decide ((g : Int) < (s.n : Int)))), (16, iv (g : Int)), (17, .pointer (some ⟨bk s, of_ s + g * 1, none⟩)), (18, .slice A2 b.length c2), (6, iv (g : Int)), (7, .slice A2 b.length c2), (19, .slice A2 b.length c2), (20, iv (b.length : Int)), (5, .slice o.A o.n o.c), (21, iv (at_ : Int))] a_ ∧ Sat w0 w_ ((SX.row (.slice o.A o.n o.c) 96 2 (encR (plN is l g at_))) :: Rs)) _ ⟨0, o, rfl, Nat.zero_le _, ha.keeps [1, 4, 12, 13, 14, 15, 16, 17, 18, 6, 7, 19, 20, 5, 21] _ rfl, hS⟩ ?_
  rintro n_ a w ⟨at_, o, rfl, hat, ha, hS⟩
  refine wp_seq (jX [0] (jQ [(0, 22, .bool (decide ((at_ : Int) < (b.length : Int))))] ha fun a ha => ?_))
  refine jY (jJ (wp_seq ?_))
  by_cases c6 : (at_ : Int) < (b.length : Int)
  ·
   refine jV ha rfl (decide_eq_true c6) ?_;refine wp_skip (jJ (wp_seq (wp_block (wp_seq (jX [0, 1] (jQ [(0, 23, iv (at_ : Int)), (1, 8, iv (at_ : Int))] ha fun a ha => ?_))))));refine jY (jJ (wp_seq (jX [0, 1, 2, 3, 4] (jQ [(0, 24, iv (g : Int)), (1, 25, iv (at_ : Int)), (2, 26, .agg #[iv (g : Int), iv (at_ : Int)])] ha fun a ha => ?_))));refine jK (qV 9 [iv 0, iv 0] 96 (ptr · 0) ha hS fun b7 w a hb8 hS ha => ?_);refine jK (o_sa 0 ha (xV (t := 96) (x := 9) (y := 26)) hS fun w a hS ha => ?_);refine jY (jJ (wp_seq (jX [0, 1, 2] (jQ [(0, 27, (.func (.func F) #[] cap.toArray))] ha fun a ha => ?_))));refine zY 28 ha (hS.blk 0 rfl) fun a ha => ?_;refine jK (o_retF (t := 27) (f := F) (cap := cap) ha (by decide) (yU (op := (Op.call { callee := (Callee.value (Operand.tmp 27)), args := #[(Operand.tmp 28)], argTypes := #[96] })) (d := some 29) (ty := 4)) rfl rfl hfn hbn (hcl _ [_, _] g at_ b hb (by omega) hS) fun v9 w a hp10 ha => ?_);obtain ⟨rfl, hS⟩ := hp10;refine jY (jJ ?_)
   rcases Bool.eq_false_or_eq_true (is ((g : Int), (at_ : Int))) with c11 | c11
   ·
    refine jV ha rfl c11 ?_;refine jX [0, 1, 2, 3, 4] (jQ [(0, 30, .slice o.A o.n o.c)] ha fun a ha => ?_);refine zY 31 ha (hS.blk 0 rfl) fun a ha => ?_;refine jK (qV 32 [iv (g : Int), iv (at_ : Int)] 96 (fun b => .slice (some ⟨b, 0, none⟩) 1 1) ha hS fun b12 w a hb13 hS ha => ?_);refine jK (o_ap 33 2 0 (encR ((plN is l g at_) ++ [((g : Int), (at_ : Int))])) ha hS rfl rfl (by rw [encR_length]; have := plN_len (is := is) h8 g at_; simp only [List.length_cons, List.length_nil]; omega) (encR_snoc _ _ _) fun s17 w a hS hn18 ha => ?_);refine jQ [(4, 5, .slice s17.A s17.n s17.c)] ha fun a ha => ?_;refine jY (in_n (jJ (jX [0, 1] (zZ 34 ((at_ : Int) + 1) ha fun a ha => ?_))));refine jQ [(1, 21, iv ((at_ : Int) + 1))] ha fun a ha => ?_;refine jY (jJ ?_);replace hS := hS.pickN 3 [2];replace hS : Sat w0 w ((SX.row (.slice s17.A s17.n s17.c) 96 2 (encR (plN is l g (at_ + 1)))) :: Rs) := by rw [plN_yes c11]; exact hS
    exact ⟨_, by omega, at_ + 1, s17, rfl, by omega, ha.keeps [1, 4, 12, 13, 14, 15, 16, 17, 18, 6, 7, 19, 20, 5, 21] _ rfl, hS⟩
   refine jW ha rfl c11 ?_;refine wp_skip (in_n (jJ (jX [0, 1] (zZ 34 ((at_ : Int) + 1) ha fun a ha => ?_))));refine jQ [(1, 21, iv ((at_ : Int) + 1))] ha fun a ha => ?_;refine jY (jJ ?_);replace hS := hS.pickN 2 [1];replace hS : Sat w0 w ((SX.row (.slice o.A o.n o.c) 96 2 (encR (plN is l g (at_ + 1)))) :: Rs) := by rw [plN_no c11]; exact hS
   exact ⟨_, by omega, at_ + 1, o, rfl, by omega, ha.keeps [1, 4, 12, 13, 14, 15, 16, 17, 18, 6, 7, 19, 20, 5, 21] _ rfl, hS⟩
  refine jW ha rfl (decide_eq_false c6) ?_
  refine wp_exit (xW (xW (in_x (in_n (jJ (jX [0, 1] (zZ 35 ((g : Int) + 1) ha fun a ha => ?_)))))))
  refine jQ [(1, 14, iv ((g : Int) + 1))] ha fun a ha => ?_
  refine jY (jJ ?_)
  replace hS : Sat w0 w ((SX.row (.slice o.A o.n o.c) 96 2 (encR (plN is l g at_))) :: Rs) := hS
  obtain rfl : at_ = b.length := by omega
  replace hS : Sat w0 w ((SX.row (.slice o.A o.n o.c) 96 2 (encR (plN is l (g + 1) 0))) :: Rs) := by rw [← plN_next hb]; exact hS
  exact ⟨_, by omega, g + 1, o, rfl, by omega, ha.keeps [1, 4, 12, 13, 5, 14] _ rfl, hS⟩
 refine jW ha rfl (decide_eq_false c5) ?_
 refine wp_exit (xW (xW (in_x (jJ (wp_seq (jX [0, 1] (jQ [(0, 36, .slice o.A o.n o.c), (1, 4, .slice o.A o.n o.c)] ha fun a ha => ?_)))))))
 refine jY (jJ (wp_ret (qG ha (by kernel_rfl) (xG (t := 4) ha rfl) ?_)))
 obtain rfl : g = l.length := by omega
 exact ⟨o, rfl, hS.pickN 1 [0]⟩
theorem prog_small {l : List (List ST)} {f arg fuel : Int} (h : askB l f arg fuel = true) : l.length ≤ 6 ∧ ∀ b ∈ l, b.length ≤ 8 := by
 obtain ⟨hP, _⟩ := ask_parts h
 refine ⟨by rw [← PL_length l]; exact hP.few, fun b hb => ?_⟩
 have := hP.short (b.map toStp) (List.mem_map_of_mem hb)
 rwa [List.length_map] at this
end Go.Proofs.Ytjkoibfkklhaiaa.G
