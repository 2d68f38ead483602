/- What the claim FnExactIsTrace rests on, part 16 of 19; the last part proves it: for every input the law answers true, and its arguments read behind the call as before it. No condition. -/
import Derived.Test.YtcbijhgepdedpaaQIsTrace7
import Derived.Test.YtcbijhgepdedpaaQIsTrace8
import Derived.Test.YtcbijhgepdedpaaQIsTrace12
import Derived.Test.YtcbijhgepdedpaaQIsTrace13
import Derived.Test.YtcbijhgepdedpaaQIsTrace15
namespace Go.Proofs.YtcbijhgepdedpaaW.PrintLast
end Go.Proofs.YtcbijhgepdedpaaW.PrintLast
namespace Go.Proofs.YtcbijhgepdedpaaW.PrintMore
end Go.Proofs.YtcbijhgepdedpaaW.PrintMore
set_option linter.unusedSimpArgs false
set_option linter.unusedVariables false
set_option maxRecDepth 20000
set_option maxHeartbeats 1000000
namespace Go.Proofs.Ytcbijhgepdedpaa.G
open Go.RowKit Go.Proofs.Ytcbijhgepdedpaa.SX Go.Proofs.YtcbijhgepdedpaaW.PrintWords Go.Proofs.YtcbijhgepdedpaaW.PrintLast Go.Proofs.YtcbijhgepdedpaaW.PrintMore
section
variable {w0 w : World} {Rs : List Asn} {s : Sl} {l : List (List ST)} {f arg fuel shared : Int}
theorem lift0 {F : Nat} {args : Array Value} {φ : Value → Prop} (hS : Sat w0 w Rs) (h : Calls Try.prog F args w (Ret fun r w' => φ r ∧ Sat w w' [])) : Calls Try.prog F args w (Ret fun r w' => φ r ∧ Sat w0 w' Rs) := by
 refine h.mono fun e w' h => ?_
 cases e with
 | returned r => exact ⟨h.1, hS.comp (Ps := []) h.2⟩
 | _ => exact h.elim
end
end Go.Proofs.Ytcbijhgepdedpaa.G
namespace Go.Proofs.Ytcbijhgepdedpaa
namespace SX
open Go.RowKit Go.Proofs.YtcbijhgepdedpaaW.PrintWords
structure RdE {α : Type} (enc : α → List Value) (sz : Nat) (w : World) (s : Sl) (l : List α) : Prop where
 len : s.n = l.length
 le : l.length ≤ s.c
 big : l.length ≤ 9223372036854775807
 at_ : ∀ (j : Nat) (x : α), l[j]? = some x → s.A = some ⟨bk s, of_ s, none⟩ ∧ ∀ (o : Nat) (u : Value), (enc x)[o]? = some u → w.cell? ⟨bk s, of_ s + j * sz + o, none⟩ = some u
section
variable {α : Type} {enc : α → List Value} {sz : Nat} {w0 w w' : World} {Rs : List Asn} {s : Sl} {l : List α}
theorem RdE.below (h : RdE enc sz w s l) (hb : Below w.heap.size w w') : RdE enc sz w' s l := ⟨h.len, h.le, h.big, fun j x hx => ⟨(h.at_ j x hx).1, fun o u hu => pw_cell_below hb ((h.at_ j x hx).2 o u hu)⟩⟩
theorem RdE.sat (h : RdE enc sz w0 s l) (hS : Sat w0 w Rs) : RdE enc sz w s l := h.below hS.below
theorem Sat.rowC {T : TypeId} {vs : List Value} (h : Sat w0 w Rs) (i : Nat) (hi : Rs[i]? = some (SX.row s.v T sz vs)) : s.n ≤ s.c ∧ s.n ≤ 9223372036854775807 := by
  obtain ⟨n, h1, h2⟩ := h.row i hi
  obtain ⟨A, sn, sc⟩ := s
  have hml : maxLen ≤ 9223372036854775807 := by decide
  rcases h2 with ⟨e, h0⟩ | ⟨g, cap, cur, e, _, hg, h3, h4, h5, h6⟩
  · simp only [Sl.v, Value.slice.injEq] at e
    obtain ⟨rfl, rfl, rfl⟩ := e;exact ⟨Nat.le_refl _, by simp⟩
  · simp only [Sl.v, Value.slice.injEq] at e
    obtain ⟨rfl, rfl, rfl⟩ := e
    dsimp only
    exact ⟨by omega, by omega⟩
theorem Sat.rdE {T : TypeId} (h : Sat w0 w Rs) (i : Nat) (hsz : ∀ x, (enc x).length = sz) (h0 : 0 < sz) (hi : Rs[i]? = some (SX.row s.v T sz (l.flatMap enc))) : RdE enc sz w s l := by
 have hn := h.rowL i hsz h0 hi
 obtain ⟨hc, hb⟩ := h.rowC i hi
 refine ⟨hn, by rw [← hn]; exact hc, by rw [← hn]; exact hb, fun j x hx => ?_⟩
 have hj := (List.getElem?_eq_some_iff.1 hx).1
 have hA := h.rowA i hi (by rw [flat_length hsz]; exact Nat.mul_pos (by omega) h0)
 have hof : of_ s = 0 := by simp [of_, hA]
 refine ⟨by rw [hof]; exact hA, fun o u hu => ?_⟩
 have ho := (List.getElem?_eq_some_iff.1 hu).1
 rw [hsz] at ho
 rw [hof, Nat.zero_add]
 exact (h.rdC i hi).cells _ _ ((flat_get (enc := enc) (o := o) hsz hx ho).trans hu)
end
section
variable {P : Program} {R : Array Oper} {n : Nat} {e : Env} {a : Act} {w : World}
theorem v_loadE {S : World → Prop} {i d : Nat} {t : TypeId} {x : Operand} {ty : TypeId} {b f : Nat} {vs : List Value} (h : Has n e a) (ho : AtW R i (.load t x) (some d) ty a) (hx : ev e x = some (.pointer (some ⟨b, f, none⟩)))
  (ht : aggSize P t = some vs.length) (hb : ∀ w, S w → ∀ (o : Nat) (u : Value), vs[o]? = some u → w.cell? ⟨b, f + o, none⟩ = some u) : Val P R i a S d (.agg vs.toArray) :=
 v_loadL h ho hx fun w hw => run_loadVar_agg ht fun i u hu => by rw [add0]; exact hb w hw i u hu
end
section
variable {P : Program} {R : Array Oper} {Q : Exit → Act → World → Prop} {n : Nat} {e : Env} {a : Act} {w w0 : World} {Rs : List Asn}
theorem made_flat {α : Type} {enc : α → List Value} {x0 : α} {z : Value} {sz : Nat} (hz : z.cells.toList = enc x0) (hsz : ∀ x, (enc x).length = sz) (h0 : 0 < sz) (m : Nat) : madeCells z.cells (m * sz) = ((List.replicate m x0).flatMap enc).toArray := by
  have hzs : z.cells.size = sz := by rw [← Array.length_toList, hz, hsz]
  refine Array.toList_inj.1 (List.ext_getElem? fun i => ?_)
  show (madeCells z.cells (m * sz)).toList[i]? = ((List.replicate m x0).flatMap enc)[i]?
  by_cases hi : i < m * sz
  · have hj : i / sz < m := (Nat.div_lt_iff_lt_mul h0).2 hi
    have ho : i % sz < sz := Nat.mod_lt _ h0;have e1 := flat_get (enc := enc) (o := i % sz) (x := x0) (j := i / sz) (l := List.replicate m x0) hsz (by rw [List.getElem?_replicate, if_pos hj]) ho;rw [show i / sz * sz + i % sz = i by rw [Nat.mul_comm]; exact Nat.div_add_mod i sz] at e1;have ho2 : i % sz < z.cells.size := by rw [hzs]; exact ho
    rw [e1, ← hz];simp only [madeCells, Array.getElem?_toList, Array.getElem?_map, Array.getElem?_range, hzs, hi, if_true, Option.map_some, getElem!_pos z.cells (i % sz) ho2, Array.getElem?_eq_getElem ho2]
  · rw [List.getElem?_eq_none (by rw [Array.length_toList, size_madeCells]; omega), List.getElem?_eq_none (by rw [flat_length hsz, List.length_replicate]; omega)]
theorem o_makeR {α : Type} {enc : α → List Value} {x0 : α} {i d : Nat} {x y : Operand} {t el ty : TypeId} {m bytes sz : Nat} {z : Value} {K : Act → World → Prop} (h : Has n e a) (hd : d < n) (ho : AtW R i (.makeSlice t x y) (some d) ty a) (hx : ev e x = some (.int .i64 (m : Int))) (hy : ev e y = some (.int .i64 (m : Int)))
    (ht : P.underlying t = some (.slice el)) (hinfo : (P.info? el).map (fun i => (i.zero, i.size, i.bytes)) = some (some z, sz, bytes)) (hz : z.cells.toList = enc x0) (hsz : ∀ x, (enc x).length = sz) (h0 : 0 < sz) (hb0 : 0 < bytes) (hn : m * bytes ≤ 281474976710656) (hS : Sat w0 w Rs)
    (k : ∀ (s : Sl) w' a', s.n = m → Sat w0 w' (SX.row s.v el sz ((List.replicate m x0).flatMap enc) :: Rs) → Has n ((d, .slice s.A s.n s.c) :: e) a' → K a' w') : wpOp P R Q i K a w := by
  have hm : m ≤ 281474976710656 := Nat.le_trans (Nat.le_mul_of_pos_right _ hb0) hn
  refine o_new (cs := (List.replicate m x0).flatMap enc) (T := el) (fun b => .slice (some ⟨b, 0, none⟩) m m) h hd ho (by simp [covers, Op.operands, hx, hy, notSelect]) hS (fun w => ?_) (fun b w' a' hb hS' ha' => ?_)
  · obtain ⟨ti, hti, he⟩ := Option.map_eq_some_iff.1 hinfo
    simp only [Prod.mk.injEq] at he;obtain ⟨e1, e2, e3⟩ := he;have hr := run_make (P := P) w t el ti z ht hti e1 .i64 .i64 (m : Int) (m : Int) (by omega) (Int.le_refl _) (by rw [e3, ← Int.natCast_mul, Nat.mul_comm]; omega) (by omega);rw [Int.toNat_natCast, e2, made_flat hz hsz h0] at hr
    simp [execOp, opr, evD, hx, hy, hr]
  · have hS2 : Sat w0 w' (SX.blk b ((List.replicate m x0).flatMap enc ++ []) el :: Rs) := by rw [List.append_nil]; exact hS'
    exact k ⟨some ⟨b, 0, none⟩, m, m⟩ w' a' rfl (Sat.shutRow (g := b) (n := m) (cap := m) (sz := sz) (xs := (List.replicate m x0).flatMap enc) (cur := []) hS2 0 rfl (by rw [flat_length hsz, List.length_replicate]) (Nat.le_refl _) (by simp only [maxLen]; omega) (by rw [List.append_nil, flat_length hsz, List.length_replicate])) ha'
end
end SX
end Go.Proofs.Ytcbijhgepdedpaa
namespace Go.Proofs.Ytcbijhgepdedpaa.G
open Go.RowKit Go.Proofs.Ytcbijhgepdedpaa.SX Go.Proofs.YtcbijhgepdedpaaW.PrintWords Go.Proofs.YtcbijhgepdedpaaW.PrintLast Go.Proofs.YtcbijhgepdedpaaW.PrintMore
theorem tk_next {α : Type} {l : List α} {z0 x : α} {j : Nat} (hx : l[j]? = some x) : (l.take j ++ List.replicate (l.length - j) z0).set j x = l.take (j + 1) ++ List.replicate (l.length - (j + 1)) z0 := by
 have h := (List.getElem?_eq_some_iff.1 hx).1
 have h2 : (l.take j).length = j := by rw [List.length_take]; omega
 rw [List.set_append_right _ _ (by omega), h2, Nat.sub_self, show l.length - j = (l.length - (j + 1)) + 1 by omega, List.replicate_succ, List.set_cons_zero, List.take_add_one, hx, List.append_assoc]; rfl
theorem tk_some {α : Type} {l : List α} {z0 : α} {j : Nat} (h : j < l.length) : ∃ z, (l.take j ++ List.replicate (l.length - j) z0)[j]? = some z := ⟨_, List.getElem?_eq_getElem (by rw [List.length_append, List.length_take, List.length_replicate]; omega)⟩
theorem tk_end {α : Type} {l : List α} {z0 : α} {j : Nat} (h : j = l.length) : l.take j ++ List.replicate (l.length - j) z0 = l := by rw [h, List.take_length, Nat.sub_self, List.replicate_zero, List.append_nil]
def szN (n : Nat) (left : Int) : Int := if left - (n : Int) < 0 then -1 else left - (n : Int)
theorem szN_ok {n : Nat} {left : Int} (h : 0 ≤ szN n left) : (n : Int) + szN n left = left := by unfold szN at *; split at h <;> rename_i h9 <;> simp [h9] at * ; omega
theorem code28 : Try.f28.body = some (Code.seq (cr Try.f28 0 false) (Code.seq (cr Try.f28 1 false) (Code.seq (cr Try.f28 2 false) (Code.seq (cr Try.f28 3 false) (Code.seq (cr Try.f28 4 false) (Code.seq (cr Try.f28 5 false) Code.ret)))))) := by kernel_rfl
theorem toEvent_sat {w0 w : World} {Rs : List Asn} {x0 x1 x2 : Int} (hS : Sat w0 w Rs) :
  Calls Try.prog 28 #[.agg #[iv x0, iv x1, iv x2]] w (Ret fun r w' => r = .agg #[iv x0, iv x1, iv x2] ∧ Sat w0 w' Rs) := by
 refine enter (n := 14) Try.func28 code28 (by kernel_rfl) (Nat.le_of_ble_eq_true rfl) (fun a ha => ?_)
 replace ha : Has 14 [(0, .agg #[iv x0, iv x1, iv x2])] a := ha
 refine wp_seq (jQ [0, 1] (qJ (qG 1 [iv x0, iv x1, iv x2] 63 (ptr · 0) ha hS fun b1 w a hb2 hS ha => ?_)))
 refine qJ (qG 2 [iv 0, iv 0, iv 0] 57 (ptr · 0) ha hS fun b3 w a hb4 hS ha => ?_)
 refine jY (jJ (wp_seq (jQ [0] (qJ (qG 3 [iv 0, iv 0, iv 0] 57 (ptr · 0) ha hS fun b5 w a hb6 hS ha => ?_)))))
 refine jY (jJ (wp_seq (jQ [0, 1, 2, 3] (jX [(0, 4, ptr b1 0)] ha fun a ha => ?_))))
 refine qU (d := 5) (b := b1) (j := 0) ha (hS.blk 2 rfl) rfl fun a ha => ?_
 refine jX [(2, 6, ptr b5 0)] ha fun a ha => ?_
 refine qJ (zQ b5 0 (iv x0) 0 ha hS rfl rfl fun w a hS ha => ?_)
 refine jY (jJ (wp_seq (jQ [0, 1, 2, 3] (jX [(0, 7, ptr b1 1)] ha fun a ha => ?_))))
 refine qU (d := 8) (b := b1) (j := 1) ha (hS.blk 2 rfl) rfl fun a ha => ?_
 refine jX [(2, 9, ptr b5 1)] ha fun a ha => ?_
 refine qJ (zQ b5 1 (iv x1) 0 ha hS rfl rfl fun w a hS ha => ?_)
 refine jY (jJ (wp_seq (jQ [0, 1, 2, 3] (jX [(0, 10, ptr b1 2)] ha fun a ha => ?_))))
 refine qU (d := 11) (b := b1) (j := 2) ha (hS.blk 2 rfl) rfl fun a ha => ?_
 refine jX [(2, 12, ptr b5 2)] ha fun a ha => ?_
 refine qJ (zQ b5 2 (iv x2) 0 ha hS rfl rfl fun w a hS ha => ?_)
 refine jY (jJ (wp_seq (jQ [0, 1] (zK 13 ha (hS.blk 0 rfl) fun a ha => ?_))))
 refine qJ (o_sa 1 ha (yU (t := 57) (x := 2) (y := 13)) hS fun w a hS ha => ?_)
 refine jY (jJ (wp_ret (jG ha (by kernel_rfl) (zV (t := 2) (ty := 57) (i := 1) ha rfl hS rfl (by kernel_rfl)) ?_)))
 exact ⟨rfl, Sat.rest [_, _, _] hS⟩
theorem code29 : Try.f29.body = some (Code.seq (cr Try.f29 0 false) (Code.seq (Code.seq (cr Try.f29 1 false) (Code.cond (Operand.tmp 9) (Code.seq (cr Try.f29 2 false) Code.ret) Code.skip)) (Code.seq (Code.seq (cr Try.f29 3 false) (Code.cond (Operand.tmp 14) (Code.seq (cr Try.f29 4 false) Code.ret) Code.skip)) (Code.seq (Code.seq (cr Try.f29 5 false) (Code.cond (Operand.tmp 19) (Code.seq (cr Try.f29 6 false) Code.ret) Code.skip)) (Code.seq (cr Try.f29 7 false) Code.ret))))) := by kernel_rfl
theorem eqEvent_sat {w0 w : World} {Rs : List Asn} {x0 x1 x2 : Int} (hS : Sat w0 w Rs) :
  Calls Try.prog 29 #[.agg #[iv x0, iv x1, iv x2], .agg #[iv x0, iv x1, iv x2]] w (Ret fun r w' => r = .bool true ∧ Sat w0 w' Rs) := by
 refine enter (n := 20) Try.func29 code29 (by kernel_rfl) (Nat.le_of_ble_eq_true rfl) (fun a ha => ?_)
 replace ha : Has 20 [(0, .agg #[iv x0, iv x1, iv x2]), (1, .agg #[iv x0, iv x1, iv x2])] a := ha
 refine wp_seq (jQ [0, 1, 2] (qJ (qG 2 [iv x0, iv x1, iv x2] 57 (ptr · 0) ha hS fun b1 w a hb2 hS ha => ?_)))
 refine qJ (qG 3 [iv x0, iv x1, iv x2] 57 (ptr · 0) ha hS fun b3 w a hb4 hS ha => ?_)
 refine jX [(2, 4, .bool false)] ha fun a ha => ?_
 refine jY (jJ (wp_seq (wp_seq (jQ [0, 1, 2, 3, 4] (jX [(0, 5, ptr b1 0)] ha fun a ha => ?_)))))
 refine qU (d := 6) (b := b1) (j := 0) ha (hS.blk 1 rfl) rfl fun a ha => ?_
 refine jX [(2, 7, ptr b3 0)] ha fun a ha => ?_
 refine qU (d := 8) (b := b3) (j := 0) ha (hS.blk 0 rfl) rfl fun a ha => ?_
 refine qY (.bool false) ha ((yY (v := .bool (!(decide (x0 = x0)))) ha (xV (op := (Op.binOp BinOp.neq 3 (Operand.tmp 6) (Operand.tmp 8) 3)) (d := some 9) (ty := 4)) (by kernel_rfl) (fun _ => by kernel_rfl)).as (by simp)) fun a ha => ?_
 refine jY (jJ ?_)
 refine jW ha rfl rfl ?_
 refine wp_skip (jJ (wp_seq (wp_seq (jQ [0, 1, 2, 3, 4] (jX [(0, 10, ptr b1 1)] ha fun a ha => ?_)))))
 refine qU (d := 11) (b := b1) (j := 1) ha (hS.blk 1 rfl) rfl fun a ha => ?_
 refine jX [(2, 12, ptr b3 1)] ha fun a ha => ?_
 refine qU (d := 13) (b := b3) (j := 1) ha (hS.blk 0 rfl) rfl fun a ha => ?_
 refine qY (.bool false) ha ((yY (v := .bool (!(decide (x1 = x1)))) ha (xV (op := (Op.binOp BinOp.neq 3 (Operand.tmp 11) (Operand.tmp 13) 3)) (d := some 14) (ty := 4)) (by kernel_rfl) (fun _ => by kernel_rfl)).as (by simp)) fun a ha => ?_
 refine jY (jJ ?_)
 refine jW ha rfl rfl ?_
 refine wp_skip (jJ (wp_seq (wp_seq (jQ [0, 1, 2, 3, 4] (jX [(0, 15, ptr b1 2)] ha fun a ha => ?_)))))
 refine qU (d := 16) (b := b1) (j := 2) ha (hS.blk 1 rfl) rfl fun a ha => ?_
 refine jX [(2, 17, ptr b3 2)] ha fun a ha => ?_
 refine qU (d := 18) (b := b3) (j := 2) ha (hS.blk 0 rfl) rfl fun a ha => ?_
 refine qY (.bool false) ha ((yY (v := .bool (!(decide (x2 = x2)))) ha (xV (op := (Op.binOp BinOp.neq 3 (Operand.tmp 16) (Operand.tmp 18) 3)) (d := some 19) (ty := 4)) (by kernel_rfl) (fun _ => by kernel_rfl)).as (by simp)) fun a ha => ?_
 refine jY (jJ ?_)
 refine jW ha rfl rfl ?_
 refine wp_skip (jJ (wp_seq (jQ [0] (jX [(0, 4, .bool true)] ha fun a ha => ?_))))
 refine jY ?_
 replace ha := ha.as [(4, .bool true)] rfl
 refine jJ (wp_ret (jG ha (by kernel_rfl) (qZ (t := 4) ha rfl) ?_))
 exact ⟨rfl, Sat.rest [_, _] hS⟩
theorem code9 : Try.f9.body = some (Code.seq (cr Try.f9 0 false) (Code.seq (cr Try.f9 1 false) (Code.seq (Code.seq (cr Try.f9 2 false) (Code.block 0 (Code.loop (Code.seq (Code.seq (cr Try.f9 3 false) (Code.cond (Operand.tmp 11) Code.skip (Code.exit 0))) (Code.seq (Code.block 1 (cr Try.f9 5 false)) (cr Try.f9 4 false)))))) (Code.seq (cr Try.f9 6 false) Code.ret)))) := by kernel_rfl
theorem toEventS_sat0 {w0 : World} {sa : Sl} {l : List (Int × Int × Int)} (hra : RdE cellsE 3 w0 sa l) (hbig : l.length ≤ 4000000) :
  Calls Try.prog 9 #[.slice sa.A sa.n sa.c] w0 (Ret fun r w' => ∃ o : Sl, r = .slice o.A o.n o.c ∧ Sat w0 w' (SX.row (.slice o.A o.n o.c) 57 3 (encE l) :: [])) := by
 have hS : Sat w0 w0 [] := Sat.start w0
 have hlen := hra.len
 refine enter (n := 23) Try.func9 code9 (by kernel_rfl) (Nat.le_of_ble_eq_true rfl) (fun a ha => ?_)
 replace ha : Has 23 [(0, .slice sa.A sa.n sa.c)] a := ha
 refine wp_seq (jQ [0] (jX [(0, 2, .slice none 0 0)] ha fun a ha => ?_))
 refine jY (jJ (wp_seq (jQ [0, 1, 2, 3] (jX [(0, 5, .slice sa.A sa.n sa.c), (1, 6, iv (sa.n : Int))] ha fun a ha => ?_))))
 refine qJ (o_makeR (enc := cellsE) (x0 := ((0, 0, 0) : Int × Int × Int)) (z := .agg #[.int .i64 0, .int .i64 0, .int .i64 0]) (m := sa.n) (bytes := 24) (el := 57) ha (by decide) (xV (op := (Op.makeSlice 25 (Operand.tmp 6) (Operand.tmp 6))) (d := some 7) (ty := 25)) rfl rfl (by kernel_rfl) (by kernel_rfl) rfl qQ (by decide) (by decide) (by omega) hS fun o w a hon hS ha => ?_)
 refine jX [(3, 3, .slice o.A o.n o.c)] ha fun a ha => ?_
 refine jY (jJ (wp_seq (wp_seq (jQ [0] (jX [(0, 4, iv 0)] ha fun a ha => ?_)))))
 refine jY (jJ (wp_block ?_))
 replace hS : Sat w0 w ((rE o (l.take 0 ++ List.replicate (l.length - 0) ((0, 0, 0) : Int × Int × Int))) :: []) := by have hh := hS; rw [hlen] at hh; exact hh
 refine wp_loop_ghost (fun n_ a_ w_ => ∃ (i : Nat), n_ = l.length - i ∧ (i ≤ l.length) ∧ Has 23 [(0, .slice sa.A sa.n sa.c), (3, .slice o.A o.n o.c), (4, iv (i : Int))] a_ ∧ Sat w0 w_ ((rE o (l.take i ++ List.replicate (l.length - i) ((0, 0, 0) : Int × Int × Int))) :: [])) _ ⟨0, rfl, Nat.zero_le _, ha.keeps [0, 3, 4] _ rfl, hS⟩ ?_
 rintro n_ a w ⟨i, rfl, hi, ha, hS⟩
 refine wp_seq (wp_seq (jQ [0, 1, 2, 3] (jX [(0, 8, iv (i : Int)), (1, 9, .slice sa.A sa.n sa.c), (2, 10, iv (sa.n : Int)), (3, 11, .bool (decide ((i : Int) < (sa.n : Int))))] ha fun a ha => ?_)))
 refine jY (jJ ?_)
 by_cases c1 : (i : Int) < (sa.n : Int)
 ·
  have hlt : i < l.length := by omega
  obtain ⟨x9, hx9⟩ : ∃ x, l[i]? = some x := ⟨_, List.getElem?_eq_getElem hlt⟩
  obtain ⟨z, hz⟩ := tk_some (l := l) (z0 := ((0, 0, 0) : Int × Int × Int)) hlt
  refine jV ha rfl (decide_eq_true c1) ?_
  refine wp_skip (jJ (wp_seq (wp_block (jQ [0, 1, 2, 3, 4, 5, 6, 7, 8] (jX [(0, 14, .slice o.A o.n o.c), (1, 15, iv (i : Int)), (2, 16, .slice sa.A sa.n sa.c), (3, 17, iv (i : Int))] ha fun a ha => ?_)))))
  refine qY (.pointer (some ⟨bk sa, of_ sa + i * 3, none⟩)) ha (yZ (el := 63) (sz := 3) (j := i) ha (xQ (t := 22) (x := 16) (y := 17) (d := 18)) rfl rfl (by kernel_rfl) (by kernel_rfl) (RdE.at_ (hra.sat hS) _ _ hx9).1 (rfl) (by rw [((hra.sat hS)).len]; exact (List.getElem?_eq_some_iff.1 hx9).1)) fun a ha => ?_
  refine qY (.agg #[iv x9.1, iv x9.2.1, iv x9.2.2]) ha (v_loadE (b := bk sa) (f := of_ sa + i * 3) (vs := [iv x9.1, iv x9.2.1, iv x9.2.2]) ha (yJ (t := 63) (x := 18) (d := 19) (ty := 63)) rfl (by kernel_rfl) (fun w' hw o u hu => by rw [hw]; exact (RdE.at_ (hra.sat hS) _ _ hx9).2 o u hu)) fun a ha => ?_
  refine qJ (yK 20 (vs := [.agg #[iv x9.1, iv x9.2.1, iv x9.2.2]]) ha (toEvent_sat hS) fun v2 w a hp3 ha => ?_)
  obtain ⟨rfl, hS⟩ := hp3
  refine qY (.pointer (some ⟨bk o, i * 3, none⟩)) ha (jH (s := o) (el := 57) (sz := 3) (j := i) ha (xQ (t := 25) (x := 14) (y := 15) (d := 21)) rfl rfl (by kernel_rfl) (by kernel_rfl) (hS.rowA (s := o) 0 rfl (by have := (List.getElem?_eq_some_iff.1 hz).1; rw [encE_length]; omega)) (rfl) (by have h9 := hS.rowL (s := o) (enc := cellsE) 0 qQ (by decide) rfl; have := (List.getElem?_eq_some_iff.1 hz).1; omega)) fun a ha => ?_
  refine qJ (o_storeRowA (s := o) (j := i * 3) (xs := encE (l.take i ++ List.replicate (l.length - i) ((0, 0, 0) : Int × Int × Int))) (xs' := encE ((l.take i ++ List.replicate (l.length - i) ((0, 0, 0) : Int × Int × Int)).set i (x9.1, x9.2.1, x9.2.2))) (vs := [iv x9.1, iv x9.2.1, iv x9.2.2]) 0 ha (yU (t := 57) (x := 21) (y := 20)) rfl rfl rfl (by kernel_rfl) hS rfl (by have := (List.getElem?_eq_some_iff.1 hz).1; rw [encE_length]; simp only [List.length_cons, List.length_nil]; omega) (Nat.succ_pos _) (flat_put (enc := cellsE) (x' := (x9.1, x9.2.1, x9.2.2)) qQ hz) (fun w a (hS : Sat w0 w ((rE o ((l.take i ++ List.replicate (l.length - i) ((0, 0, 0) : Int × Int × Int)).set i (x9.1, x9.2.1, x9.2.2))) :: [])) ha => ?_))
  refine jY (in_n (jJ (jQ [0, 1, 2] (jX [(0, 12, iv (i : Int))] ha fun a ha => ?_))))
  refine qX 13 ((i : Int) + 1) ha fun a ha => ?_
  refine jX [(2, 4, iv ((i : Int) + 1))] ha fun a ha => ?_
  refine jY (jJ ?_)
  replace hS : Sat w0 w ((rE o (l.take (i + 1) ++ List.replicate (l.length - (i + 1)) ((0, 0, 0) : Int × Int × Int))) :: []) := by rw [← tk_next hx9]; exact hS
  exact ⟨_, by omega, i + 1, rfl, by omega, ha.keeps [0, 3, 4] _ rfl, hS⟩
 refine jW ha rfl (decide_eq_false c1) ?_
 refine wp_exit (xG (xG (in_x (jJ (wp_seq (jQ [0, 1] (jX [(0, 22, .slice o.A o.n o.c), (1, 2, .slice o.A o.n o.c)] ha fun a ha => ?_)))))))
 refine jY (jJ (wp_ret (jG ha (by kernel_rfl) (qZ (t := 2) ha rfl) ?_)))
 have hie : i = l.length := by omega
 rw [tk_end hie] at hS
 exact ⟨o, rfl, hS⟩
theorem toEventS_sat {w0 w : World} {Rs : List Asn} {sa : Sl} {l : List (Int × Int × Int)} (hS : Sat w0 w Rs) (hra : RdE cellsE 3 w sa l) (hbig : l.length ≤ 4000000) :
  Calls Try.prog 9 #[.slice sa.A sa.n sa.c] w (Ret fun r w' => ∃ o : Sl, r = .slice o.A o.n o.c ∧ Sat w0 w' (SX.row (.slice o.A o.n o.c) 57 3 (encE l) :: Rs)) :=
 (toEventS_sat0 hra hbig).mono fun e w' h => by
  cases e with
  | returned r => obtain ⟨o, h1, h2⟩ := h; exact ⟨o, h1, hS.comp h2⟩
  | _ => exact h.elim
theorem code11 : Try.f11.body = some (Code.seq (cr Try.f11 0 false) (Code.seq (Code.seq (cr Try.f11 1 false) (Code.cond (Operand.tmp 10) (Code.seq (cr Try.f11 2 false) Code.ret) Code.skip)) (Code.seq (Code.seq (cr Try.f11 3 false) (Code.block 0 (Code.loop (Code.seq (Code.seq (cr Try.f11 4 false) (Code.cond (Operand.tmp 14) Code.skip (Code.exit 0))) (Code.seq (Code.block 1 (Code.seq (cr Try.f11 6 true) (Code.cond (Operand.tmp 26) (Code.seq (cr Try.f11 7 false) Code.ret) Code.skip))) (cr Try.f11 5 false)))))) (Code.seq (cr Try.f11 8 false) Code.ret)))) := by kernel_rfl
theorem eqEventS_sat0 {w0 : World} {sa sb : Sl} {l : List (Int × Int × Int)} (hra : RdE cellsE 3 w0 sa l) (hrb : RdE cellsE 3 w0 sb l) :
  Calls Try.prog 11 #[.slice sa.A sa.n sa.c, .slice sb.A sb.n sb.c] w0 (Ret fun r w' => r = .bool true ∧ Sat w0 w' []) := by
 have hS : Sat w0 w0 [] := Sat.start w0
 have hbig := hra.big
 have hlen := hra.len
 have hlen2 := hrb.len
 refine enter (n := 27) Try.func11 code11 (by kernel_rfl) (Nat.le_of_ble_eq_true rfl) (fun a ha => ?_)
 replace ha : Has 27 [(0, .slice sa.A sa.n sa.c), (1, .slice sb.A sb.n sb.c)] a := ha
 refine wp_seq (jQ [0] (jX [(0, 4, .bool false)] ha fun a ha => ?_))
 refine jY (jJ (wp_seq (wp_seq (jQ [0, 1, 2, 3, 4] (jX [(0, 6, .slice sa.A sa.n sa.c), (1, 7, iv (sa.n : Int)), (2, 8, .slice sb.A sb.n sb.c), (3, 9, iv (sb.n : Int)), (4, 10, .bool (!(decide ((sa.n : Int) = (sb.n : Int)))))] ha fun a ha => ?_)))))
 refine jY (jJ ?_)
 by_cases c1 : (sa.n : Int) = (sb.n : Int)
 ·
  refine jW ha rfl (qW (decide_eq_true c1)) ?_
  refine wp_skip (jJ (wp_seq (wp_seq (jQ [0] (jX [(0, 5, iv 0)] ha fun a ha => ?_)))))
  refine jY (jJ (wp_block ?_))
  refine wp_loop_ghost (fun n_ a_ w_ => ∃ (i : Nat), n_ = l.length - i ∧ (i ≤ l.length) ∧ Has 27 [(0, .slice sa.A sa.n sa.c), (1, .slice sb.A sb.n sb.c), (5, iv (i : Int))] a_ ∧ Sat w0 w_ ([])) _ ⟨0, rfl, Nat.zero_le _, ha.keeps [0, 1, 5] _ rfl, hS⟩ ?_
  rintro n_ a w ⟨i, rfl, hi, ha, hS⟩
  refine wp_seq (wp_seq (jQ [0, 1, 2, 3] (jX [(0, 11, iv (i : Int)), (1, 12, .slice sa.A sa.n sa.c), (2, 13, iv (sa.n : Int)), (3, 14, .bool (decide ((i : Int) < (sa.n : Int))))] ha fun a ha => ?_)))
  refine jY (jJ ?_)
  by_cases c2 : (i : Int) < (sa.n : Int)
  ·
   have hlt : i < l.length := by omega
   obtain ⟨x9, hx9⟩ : ∃ x, l[i]? = some x := ⟨_, List.getElem?_eq_getElem hlt⟩;refine jV ha rfl (decide_eq_true c2) ?_;refine wp_skip (jJ (wp_seq (wp_block (wp_seq (xX 8 10 hS fun w hS => ?_)))));refine jU (k := 8) [(0, 17, .slice sa.A sa.n sa.c), (1, 18, iv (i : Int))] ha (.inr hS) fun a ha => ?_;refine qH 2 (.pointer (some ⟨bk sa, of_ sa + i * 3, none⟩)) ha (yZ (el := 57) (sz := 3) (j := i) ha (xQ (t := 25) (x := 17) (y := 18) (d := 19)) rfl rfl (by kernel_rfl) (by kernel_rfl) (RdE.at_ (hra.sat hS) _ _ hx9).1 (rfl) (by rw [((hra.sat hS)).len]; exact (List.getElem?_eq_some_iff.1 hx9).1)) (.inr hS) fun a ha => ?_;refine xK 3 (.agg #[iv x9.1, iv x9.2.1, iv x9.2.2]) ha (v_loadE (b := bk sa) (f := of_ sa + i * 3) (vs := [iv x9.1, iv x9.2.1, iv x9.2.2]) ha (yJ (t := 57) (x := 19) (d := 20) (ty := 57)) rfl (by kernel_rfl) (fun w' hw o u hu => by exact (RdE.at_ ((hra.sat hw)) _ _ hx9).2 o u hu)) hS fun a ha => ?_;refine jU (k := 4) [(4, 21, .slice sb.A sb.n sb.c), (5, 22, iv (i : Int))] ha (.inr hS) fun a ha => ?_;refine qH 6 (.pointer (some ⟨bk sb, of_ sb + i * 3, none⟩)) ha (yZ (el := 57) (sz := 3) (j := i) ha (xQ (t := 25) (x := 21) (y := 22) (d := 23)) rfl rfl (by kernel_rfl) (by kernel_rfl) (RdE.at_ (hrb.sat hS) _ _ hx9).1 (rfl) (by rw [((hrb.sat hS)).len]; exact (List.getElem?_eq_some_iff.1 hx9).1)) (.inr hS) fun a ha => ?_;refine xK 7 (.agg #[iv x9.1, iv x9.2.1, iv x9.2.2]) ha (v_loadE (b := bk sb) (f := of_ sb + i * 3) (vs := [iv x9.1, iv x9.2.1, iv x9.2.2]) ha (yJ (t := 57) (x := 23) (d := 24) (ty := 57)) rfl (by kernel_rfl) (fun w' hw o u hu => by exact (RdE.at_ ((hrb.sat hw)) _ _ hx9).2 o u hu)) hS fun a ha => ?_;refine xW 8 (yK 25 (vs := [.agg #[iv x9.1, iv x9.2.1, iv x9.2.2], .agg #[iv x9.1, iv x9.2.1, iv x9.2.2]]) ha (eqEvent_sat hS) fun v3 w a hp4 ha => ?_);obtain ⟨rfl, hS⟩ := hp4;refine zJ (jU (k := 0) [(9, 26, .bool false)] ha (.inl (by kernel_rfl)) fun a ha => ?_);refine xZ (jJ ?_);refine jW ha rfl rfl ?_;refine wp_skip (in_n (jJ (jQ [0, 1, 2] (jX [(0, 15, iv (i : Int))] ha fun a ha => ?_))));refine qX 16 ((i : Int) + 1) ha fun a ha => ?_;refine jX [(2, 5, iv ((i : Int) + 1))] ha fun a ha => ?_;refine jY (jJ ?_);exact ⟨_, by omega, i + 1, rfl, by omega, ha.keeps [0, 1, 5] _ rfl, hS⟩
  refine jW ha rfl (decide_eq_false c2) ?_
  refine wp_exit (xG (xG (in_x (jJ (wp_seq (jQ [0] (jX [(0, 4, .bool true)] ha fun a ha => ?_)))))))
  refine jY (jJ (wp_ret (jG ha (by kernel_rfl) (qZ (t := 4) ha rfl) ?_)))
  exact ⟨rfl, hS⟩
 refine jV ha rfl (qV (decide_eq_false c1)) ?_
 refine wp_seq (jQ [0] (jX [(0, 4, .bool false)] ha fun a ha => ?_))
 refine jY (jJ (wp_ret (jZ ?_)))
 exfalso; omega
theorem eqEventS_sat {w0 w : World} {Rs : List Asn} {sa sb : Sl} {l : List (Int × Int × Int)} (hS : Sat w0 w Rs) (hra : RdE cellsE 3 w sa l) (hrb : RdE cellsE 3 w sb l) :
  Calls Try.prog 11 #[.slice sa.A sa.n sa.c, .slice sb.A sb.n sb.c] w (Ret fun r w' => r = .bool true ∧ Sat w0 w' Rs) := lift0 hS (eqEventS_sat0 hra hrb)
theorem code7 : Try.f7.body = some (Code.seq (cr Try.f7 0 false) (Code.seq (cr Try.f7 1 false) (Code.seq (Code.seq (cr Try.f7 2 false) (Code.cond (Operand.tmp 10) (Code.seq (cr Try.f7 3 false) Code.ret) Code.skip)) (Code.seq (cr Try.f7 4 false) Code.ret)))) := by kernel_rfl
theorem szEventS_sat {w0 w : World} {Rs : List Asn} {sa : Sl} {n : Nat} {left : Int} (hS : Sat w0 w Rs) (hn : sa.n = n) (hb : n ≤ 9223372036854775807) (h0 : 0 ≤ left) (h1 : left ≤ 1048576) :
  Calls Try.prog 7 #[.slice sa.A sa.n sa.c, .int .i64 left] w (Ret fun r w' => r = .int .i64 (szN n left) ∧ Sat w0 w' Rs) := by
 refine enter (n := 12) Try.func7 code7 (by kernel_rfl) (Nat.le_of_ble_eq_true rfl) (fun a ha => ?_)
 replace ha : Has 12 [(0, .slice sa.A sa.n sa.c), (1, iv left)] a := ha
 refine wp_seq (jQ [0] (jX [(0, 4, iv 0)] ha fun a ha => ?_))
 refine jY (jJ (wp_seq (jQ [0, 1, 2, 3, 4] (jX [(0, 5, iv left), (1, 6, .slice sa.A sa.n sa.c), (2, 7, iv (sa.n : Int))] ha fun a ha => ?_))))
 refine qX 8 (left - (sa.n : Int)) ha fun a ha => ?_
 refine jX [(4, 1, iv (left - (sa.n : Int)))] ha fun a ha => ?_
 refine jY (jJ (wp_seq (wp_seq (jQ [0, 1] (jX [(0, 9, iv (left - (sa.n : Int))), (1, 10, .bool (decide ((left - (sa.n : Int)) < 0)))] ha fun a ha => ?_)))))
 refine jY (jJ ?_)
 by_cases c1 : (left - (sa.n : Int)) < 0
 ·
  refine jV ha rfl (decide_eq_true c1) ?_
  refine wp_seq (jQ [0] (jX [(0, 4, iv (-1))] ha fun a ha => ?_))
  refine jY (jJ (wp_ret (jZ (jG ha (by kernel_rfl) (qZ (t := 4) ha rfl) ?_))))
  have hE : szN n left = (-1) := by unfold szN; simp only [← hn]; rw [if_pos (by omega)]
  rw [hE]
  exact ⟨rfl, hS⟩
 refine jW ha rfl (decide_eq_false c1) ?_
 refine wp_skip (jJ (wp_seq (jQ [0, 1] (jX [(0, 11, iv (left - (sa.n : Int))), (1, 4, iv (left - (sa.n : Int)))] ha fun a ha => ?_))))
 refine jY (jJ (wp_ret (jG ha (by kernel_rfl) (qZ (t := 4) ha rfl) ?_)))
 have hE : szN n left = left - (sa.n : Int) := by unfold szN; simp only [← hn]; rw [if_neg (by omega)]
 rw [hE]
 exact ⟨rfl, hS⟩
end Go.Proofs.Ytcbijhgepdedpaa.G
