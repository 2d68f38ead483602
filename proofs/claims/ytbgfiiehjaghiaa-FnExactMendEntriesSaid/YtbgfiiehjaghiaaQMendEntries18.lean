/- What the claim FnExactMendEntries rests on, part 18 of 23; the last part proves it: for every input the law answers true, and its arguments read behind the call as before it. No condition. -/
import Derived.Test.YtbgfiiehjaghiaaQMendEntries7
import Derived.Test.YtbgfiiehjaghiaaQMendEntries8
import Derived.Test.YtbgfiiehjaghiaaQMendEntries13
import Derived.Test.YtbgfiiehjaghiaaQMendEntries14
import Derived.Test.YtbgfiiehjaghiaaQMendEntries17
namespace Go.Proofs.YtbgfiiehjaghiaaW.PrintLast
end Go.Proofs.YtbgfiiehjaghiaaW.PrintLast
namespace Go.Proofs.YtbgfiiehjaghiaaW.PrintMore
end Go.Proofs.YtbgfiiehjaghiaaW.PrintMore
set_option linter.unusedSimpArgs false
set_option linter.unusedVariables false
set_option maxRecDepth 20000
set_option maxHeartbeats 1000000
namespace Go.Proofs.Ytbgfiiehjaghiaa
namespace SX
open Go.RowKit Go.Proofs.Ytbgfiiehjaghiaa.G Go.Proofs.YtbgfiiehjaghiaaW.PrintWords Go.Proofs.YtbgfiiehjaghiaaW.PrintLast Go.Proofs.YtbgfiiehjaghiaaW.PrintMore
section
variable {w0 w : World} {Rs : List Asn}
theorem drawn_sat (hS : Sat w0 w Rs) {w' : World} (h : Drawn0 w w') : Sat w0 w' Rs := by
 obtain ⟨q, rfl⟩ := h.out
 exact hS.grows ⟨rfl, rfl, rfl, Nat.le_refl _, fun _ _ => rfl⟩
def inB (x lo hi : Int) : Bool := decide (lo ≤ x) && decide (x ≤ hi)
theorem in_sat (hS : Sat w0 w Rs) (x lo hi : Int) : Calls Try.prog 69 #[.int .i64 x, .int .i64 lo, .int .i64 hi] w (Ret fun r w' => r = .bool (inB x lo hi) ∧ Sat w0 w' Rs) := by
 refine (impl_in.calls x lo hi _ w (in_eq x lo hi)).mono ?_
 rintro e w' ⟨rfl, hd⟩
 exact ⟨rfl, drawn_sat hS hd⟩
end
end SX
end Go.Proofs.Ytbgfiiehjaghiaa
namespace Go.Proofs.Ytbgfiiehjaghiaa.G
open Go.RowKit Go.Proofs.Ytbgfiiehjaghiaa.SX Go.Proofs.YtbgfiiehjaghiaaW.PrintWords Go.Proofs.YtbgfiiehjaghiaaW.PrintLast Go.Proofs.YtbgfiiehjaghiaaW.PrintMore
theorem q_in {w0 w : World} {Rs : List Asn} (hS : Sat w0 w Rs) (x lo hi : Int) : Calls Try.prog 66 #[.int .i64 x, .int .i64 lo, .int .i64 hi] w (Ret fun r w' => r = .bool (decide (lo ≤ x) && decide (x ≤ hi)) ∧ Sat w0 w' Rs) := by
 refine (spec_l1In.calls x lo hi (decide (lo ≤ x) && decide (x ≤ hi)) w (by unfold spec_l1In.f; by_cases h : lo ≤ x <;> simp [h])).mono ?_
 rintro e w' ⟨rfl, hd⟩
 obtain ⟨q, rfl⟩ := hd.out
 exact ⟨rfl, hS.grows ⟨rfl, rfl, rfl, Nat.le_refl _, fun _ _ => rfl⟩⟩
section
variable {w0 w : World} {Rs : List Asn} {s : Sl} {l : List (List ST)} {f arg fuel shared : Int}
theorem lift0 {F : Nat} {args : Array Value} {φ : Value → Prop} (hS : Sat w0 w Rs) (h : Calls Try.prog F args w (Ret fun r w' => φ r ∧ Sat w w' [])) : Calls Try.prog F args w (Ret fun r w' => φ r ∧ Sat w0 w' Rs) := by
 refine h.mono fun e w' h => ?_
 cases e with
 | returned r => exact ⟨h.1, hS.comp (Ps := []) h.2⟩
 | _ => exact h.elim
end
end Go.Proofs.Ytbgfiiehjaghiaa.G
namespace Go.Proofs.Ytbgfiiehjaghiaa.SX
open Go.RowKit Go.Proofs.Ytbgfiiehjaghiaa.G Go.Proofs.YtbgfiiehjaghiaaW.PrintWords Go.Proofs.YtbgfiiehjaghiaaW.PrintLast Go.Proofs.YtbgfiiehjaghiaaW.PrintMore
def R3.m : R3 → MS
 | .spent m => m
 | .done m _ _ => m
def RB.m : RB → MS
 | .spent m => m
 | .go m _ _ _ => m
end Go.Proofs.Ytbgfiiehjaghiaa.SX
namespace Go.Proofs.Ytbgfiiehjaghiaa
namespace SX
open Go.RowKit Go.Proofs.YtbgfiiehjaghiaaW.PrintWords
section
variable {P : Program} {R : Array Oper} {Q : Exit → Act → World → Prop} {n : Nat} {e : Env} {a : Act} {w w0 : World} {Rs : List Asn}
theorem made_flat {α : Type} {enc : α → List Value} {x0 : α} {z : Value} {sz : Nat} (hz : z.cells.toList = enc x0) (hsz : ∀ x, (enc x).length = sz) (h0 : 0 < sz) (m : Nat) : madeCells z.cells (m * sz) = ((List.replicate m x0).flatMap enc).toArray := by
  have hzs : z.cells.size = sz := by rw [← Array.length_toList, hz, hsz]
  refine Array.toList_inj.1 (List.ext_getElem? fun i => ?_)
  show (madeCells z.cells (m * sz)).toList[i]? = ((List.replicate m x0).flatMap enc)[i]?
  by_cases hi : i < m * sz
  · have hj : i / sz < m := (Nat.div_lt_iff_lt_mul h0).2 hi
    have ho : i % sz < sz := Nat.mod_lt _ h0;have e1 := flat_get (enc := enc) (o := i % sz) (x := x0) (j := i / sz) (l := List.replicate m x0) hsz (by rw [List.getElem?_replicate, if_pos hj]) ho;rw [show i / sz * sz + i % sz = i by rw [Nat.mul_comm]; exact Nat.div_add_mod i sz] at e1;have ho2 : i % sz < z.cells.size := by rw [hzs]; exact ho
    rw [e1, ← hz];simp only [madeCells, Array.getElem?_toList, Array.getElem?_map, Array.getElem?_range, hzs, hi, if_true, Option.map_some, getElem!_pos z.cells (i % sz) ho2, Array.getElem?_eq_getElem ho2]
  · rw [List.getElem?_eq_none (by rw [Array.length_toList, size_madeCells]; omega), List.getElem?_eq_none (by rw [flat_length hsz, List.length_replicate]; omega)]
theorem o_makeR {α : Type} {enc : α → List Value} {x0 : α} {i d : Nat} {x y : Operand} {t el ty : TypeId} {m bytes sz : Nat} {z : Value} {K : Act → World → Prop} (h : Has n e a) (hd : d < n) (ho : AtW R i (.makeSlice t x y) (some d) ty a) (hx : ev e x = some (.int .i64 (m : Int))) (hy : ev e y = some (.int .i64 (m : Int)))
    (ht : P.underlying t = some (.slice el)) (hinfo : (P.info? el).map (fun i => (i.zero, i.size, i.bytes)) = some (some z, sz, bytes)) (hz : z.cells.toList = enc x0) (hsz : ∀ x, (enc x).length = sz) (h0 : 0 < sz) (hb0 : 0 < bytes) (hn : m * bytes ≤ 281474976710656) (hS : Sat w0 w Rs)
    (k : ∀ (s : Sl) w' a', s.n = m → Sat w0 w' (SX.row s.v el sz ((List.replicate m x0).flatMap enc) :: Rs) → Has n ((d, .slice s.A s.n s.c) :: e) a' → K a' w') : wpOp P R Q i K a w := by
  have hm : m ≤ 281474976710656 := Nat.le_trans (Nat.le_mul_of_pos_right _ hb0) hn
  refine o_new (cs := (List.replicate m x0).flatMap enc) (T := el) (fun b => .slice (some ⟨b, 0, none⟩) m m) h hd ho (by simp [covers, Op.operands, hx, hy, notSelect]) hS (fun w => ?_) (fun b w' a' hb hS' ha' => ?_)
  · obtain ⟨ti, hti, he⟩ := Option.map_eq_some_iff.1 hinfo
    simp only [Prod.mk.injEq] at he;obtain ⟨e1, e2, e3⟩ := he;have hr := run_make (P := P) w t el ti z ht hti e1 .i64 .i64 (m : Int) (m : Int) (by omega) (Int.le_refl _) (by rw [e3, ← Int.natCast_mul, Nat.mul_comm]; omega) (by omega);rw [Int.toNat_natCast, e2, made_flat hz hsz h0] at hr
    simp [execOp, opr, evD, hx, hy, hr]
  · have hS2 : Sat w0 w' (SX.blk b ((List.replicate m x0).flatMap enc ++ []) el :: Rs) := by rw [List.append_nil]; exact hS'
    exact k ⟨some ⟨b, 0, none⟩, m, m⟩ w' a' rfl (Sat.shutRow (g := b) (n := m) (cap := m) (sz := sz) (xs := (List.replicate m x0).flatMap enc) (cur := []) hS2 0 rfl (by rw [flat_length hsz, List.length_replicate]) (Nat.le_refl _) (by simp only [maxLen]; omega) (by rw [List.append_nil, flat_length hsz, List.length_replicate])) ha'
end
end SX
end Go.Proofs.Ytbgfiiehjaghiaa
namespace Go.Proofs.Ytbgfiiehjaghiaa.G
open Go.RowKit Go.Proofs.Ytbgfiiehjaghiaa.SX Go.Proofs.YtbgfiiehjaghiaaW.PrintWords Go.Proofs.YtbgfiiehjaghiaaW.PrintLast Go.Proofs.YtbgfiiehjaghiaaW.PrintMore
def mkG (k0 : Int) (n : Nat) : List Int := (List.range n).map fun (j : Nat) => k0 + (j : Int)
theorem mkG_len (k0 : Int) (n : Nat) : (mkG k0 n).length = n := by simp [mkG]
theorem mkG_at {k0 : Int} {n j : Nat} {k : Int} (hk : k = k0 + (j : Int)) (h : j < (mkG k0 n).length) : (mkG k0 n).getD j 0 = k := by
 rw [mkG_len] at h; unfold mkG; rw [List.getD_eq_getElem?_getD, List.getElem?_map, List.getElem?_range h, hk]; rfl
theorem set_drop {α : Type} {f : Nat → List α} {l : List α} {j : Nat} {x : α} (hf : (f j).length = j) (h : j < l.length) (hn : f (j + 1) = f j ++ [x]) : (f j ++ l.drop j).set j x = f (j + 1) ++ l.drop (j + 1) := by
 rw [List.set_append_right _ _ (by rw [hf]; exact Nat.le_refl _), hf, Nat.sub_self, List.drop_eq_getElem_cons h, List.set_cons_zero, hn, List.append_assoc]; rfl
theorem mkG_next {k0 : Int} {l : List Int} {j : Nat} {k : Int} (hk : k = k0 + (j : Int)) (h : j < l.length) : (mkG k0 j ++ l.drop j).set j k = mkG k0 (j + 1) ++ l.drop (j + 1) :=
 set_drop (mkG_len k0 j) h (by unfold mkG; rw [List.range_succ, List.map_append, hk]; rfl)
theorem mkG_some {k0 : Int} {l : List Int} {j : Nat} (h : j < l.length) : ∃ z, (mkG k0 j ++ l.drop j)[j]? = some z := ⟨_, List.getElem?_eq_getElem (by rw [List.length_append, mkG_len, List.length_drop]; omega)⟩
theorem tk_next {α : Type} {l : List α} {z0 x : α} {j : Nat} (hx : l[j]? = some x) : (l.take j ++ List.replicate (l.length - j) z0).set j x = l.take (j + 1) ++ List.replicate (l.length - (j + 1)) z0 := by
 have h := (List.getElem?_eq_some_iff.1 hx).1
 have h2 : (l.take j).length = j := by rw [List.length_take]; omega
 rw [List.set_append_right _ _ (by omega), h2, Nat.sub_self, show l.length - j = (l.length - (j + 1)) + 1 by omega, List.replicate_succ, List.set_cons_zero, List.take_add_one, hx, List.append_assoc]; rfl
theorem tk_some {α : Type} {l : List α} {z0 : α} {j : Nat} (h : j < l.length) : ∃ z, (l.take j ++ List.replicate (l.length - j) z0)[j]? = some z := ⟨_, List.getElem?_eq_getElem (by rw [List.length_append, List.length_take, List.length_replicate]; omega)⟩
theorem tk_end {α : Type} {l : List α} {z0 : α} {j : Nat} (h : j = l.length) : l.take j ++ List.replicate (l.length - j) z0 = l := by rw [h, List.take_length, Nat.sub_self, List.replicate_zero, List.append_nil]
theorem getD_at {l : List Int} {n : Nat} {x : Int} (h : l[n]? = some x) : l.getD n 0 = x := by rw [List.getD_eq_getElem?_getD, h]; rfl
def cellsJ (x : Int) : List Value := [.int .i64 x]
def encJ (l : List Int) : List Value := l.flatMap cellsJ
theorem cellsJ_len (x : Int) : (cellsJ x).length = 1 := rfl
theorem encJ_length (l : List Int) : (encJ l).length = l.length * 1 := flat_length cellsJ_len l
theorem encJ_I (l : List Int) : encI l = encJ l := by
 induction l with
 | nil => rfl
 | cons x l ih => show Value.int .i64 x :: encI l = Value.int .i64 x :: encJ l; rw [ih]
theorem code38 : Try.f38.body = some (Code.seq (cr Try.f38 0 false) (Code.seq (cr Try.f38 1 false) (Code.seq (Code.seq (cr Try.f38 2 false) (Code.block 0 (Code.loop (Code.seq (Code.seq (cr Try.f38 3 false) (Code.cond (Operand.tmp 11) Code.skip (Code.exit 0))) (Code.seq (Code.block 1 (cr Try.f38 5 false)) (cr Try.f38 4 false)))))) (Code.seq (cr Try.f38 6 false) Code.ret)))) := by kernel_rfl
theorem toIntS_sat0 {w0 : World} {sa : Sl} {l : List Int} (hra : RdI w0 sa l) (hbig : l.length ≤ 4000000) :
  Calls Try.prog 38 #[.slice sa.A sa.n sa.c] w0 (Ret fun r w' => ∃ o : Sl, r = .slice o.A o.n o.c ∧ Sat w0 w' (SX.row (.slice o.A o.n o.c) 3 1 (encI l) :: [])) := by
 have hS : Sat w0 w0 [] := Sat.start w0
 have hlen := hra.len
 refine enter (n := 22) Try.func38 code38 (by kernel_rfl) (Nat.le_of_ble_eq_true rfl) (fun a ha => ?_)
 replace ha : Has 22 [(0, .slice sa.A sa.n sa.c)] a := ha
 refine wp_seq (jQ [0] (jX [(0, 2, .slice none 0 0)] ha fun a ha => ?_))
 refine jY (jJ (wp_seq (jQ [0, 1, 2, 3] (jX [(0, 5, .slice sa.A sa.n sa.c), (1, 6, iv (sa.n : Int))] ha fun a ha => ?_))))
 refine jZ (o_makeR (enc := cellsJ) (x0 := (0 : Int)) (z := .int .i64 0) (m := sa.n) (bytes := 8) (el := 3) ha (by decide) (xX (op := (Op.makeSlice 37 (Operand.tmp 6) (Operand.tmp 6))) (d := some 7) (ty := 37)) rfl rfl (by kernel_rfl) (by kernel_rfl) rfl cellsJ_len (by decide) (by decide) (by omega) hS fun o w a hon hS ha => ?_)
 refine jX [(3, 3, .slice o.A o.n o.c)] ha fun a ha => ?_
 refine jY (jJ (wp_seq (wp_seq (jQ [0] (jX [(0, 4, iv 0)] ha fun a ha => ?_)))))
 refine jY (jJ (wp_block ?_))
 replace hS : Sat w0 w ((SX.row (.slice o.A o.n o.c) 3 1 (encJ (l.take 0 ++ List.replicate (l.length - 0) (0 : Int)))) :: []) := by have hh := hS; rw [hlen] at hh; exact hh
 refine wp_loop_ghost (fun n_ a_ w_ => ∃ (i : Nat), n_ = l.length - i ∧ (i ≤ l.length) ∧ Has 22 [(0, .slice sa.A sa.n sa.c), (3, .slice o.A o.n o.c), (4, iv (i : Int))] a_ ∧ Sat w0 w_ ((SX.row (.slice o.A o.n o.c) 3 1 (encJ (l.take i ++ List.replicate (l.length - i) (0 : Int)))) :: [])) _ ⟨0, rfl, Nat.zero_le _, ha.keeps [0, 3, 4] _ rfl, hS⟩ ?_
 rintro n_ a w ⟨i, rfl, hi, ha, hS⟩
 refine wp_seq (wp_seq (jQ [0, 1, 2, 3] (jX [(0, 8, iv (i : Int)), (1, 9, .slice sa.A sa.n sa.c), (2, 10, iv (sa.n : Int)), (3, 11, .bool (decide ((i : Int) < (sa.n : Int))))] ha fun a ha => ?_)))
 refine jY (jJ ?_)
 by_cases c1 : (i : Int) < (sa.n : Int)
 ·
  have hlt : i < l.length := by omega
  obtain ⟨x9, hx9⟩ : ∃ x, l[i]? = some x := ⟨_, List.getElem?_eq_getElem hlt⟩
  obtain ⟨z, hz⟩ := tk_some (l := l) (z0 := (0 : Int)) hlt
  refine jW ha rfl (decide_eq_true c1) ?_
  refine wp_skip (jJ (wp_seq (wp_block (jQ [0, 1, 2, 3, 4, 5, 6, 7] (jX [(0, 14, .slice o.A o.n o.c), (1, 15, iv (i : Int)), (2, 16, .slice sa.A sa.n sa.c), (3, 17, iv (i : Int))] ha fun a ha => ?_)))))
  refine jU (.pointer (some ⟨bk sa, of_ sa + i * 1, none⟩)) ha (jH (el := 3) (sz := 1) (j := i) ha (qV (t := 37) (x := 16) (y := 17) (d := 18)) rfl rfl (by kernel_rfl) (by kernel_rfl) ((hra.sat hS).at_ ((List.getElem?_eq_some_iff.1 hx9).1)).1 (by rw [((hra.sat hS)).len]; exact (List.getElem?_eq_some_iff.1 hx9).1)) fun a ha => ?_
  refine jU (iv x9) ha (qQ (p := ⟨bk sa, of_ sa + i * 1, none⟩) ha (qU (t := 3) (x := 18) (d := 19) (ty := 3)) rfl (by kernel_rfl) (fun w' hw => by rw [hw, Nat.mul_one, ← getD_at hx9]; exact ((hra.sat hS).at_ ((List.getElem?_eq_some_iff.1 hx9).1)).2)) fun a ha => ?_
  refine jU (.pointer (some ⟨bk o, i * 1, none⟩)) ha (xK (s := o) (el := 3) (sz := 1) (j := i) ha (qV (t := 37) (x := 14) (y := 15) (d := 20)) rfl rfl (by kernel_rfl) (by kernel_rfl) (hS.rowA (s := o) 0 rfl (by have := (List.getElem?_eq_some_iff.1 hz).1; rw [encJ_length]; omega)) (rfl) (by have h9 := hS.rowL (s := o) (enc := cellsJ) 0 cellsJ_len (by decide) rfl; have := (List.getElem?_eq_some_iff.1 hz).1; omega)) fun a ha => ?_
  refine jZ (xW (s := o) (j := i * 1 + 0) (xs := encJ (l.take i ++ List.replicate (l.length - i) (0 : Int))) (xs' := encJ ((l.take i ++ List.replicate (l.length - i) (0 : Int)).set i x9)) 0 ha (yG (t := 3) (x := 20) (y := 19)) rfl rfl rfl (by kernel_rfl) hS rfl (by have := (List.getElem?_eq_some_iff.1 hz).1; rw [encJ_length]; omega) ((flat_set (enc := cellsJ) (x' := x9) cellsJ_len hz (by decide) rfl)) (fun w a (hS : Sat w0 w ((SX.row (.slice o.A o.n o.c) 3 1 (encJ ((l.take i ++ List.replicate (l.length - i) (0 : Int)).set i x9))) :: [])) ha => ?_))
  refine jY (in_n (jJ (jQ [0, 1, 2] (jX [(0, 12, iv (i : Int))] ha fun a ha => ?_))))
  refine qZ 13 ((i : Int) + 1) ha fun a ha => ?_
  refine jX [(2, 4, iv ((i : Int) + 1))] ha fun a ha => ?_
  refine jY (jJ ?_)
  replace hS : Sat w0 w ((SX.row (.slice o.A o.n o.c) 3 1 (encJ (l.take (i + 1) ++ List.replicate (l.length - (i + 1)) (0 : Int)))) :: []) := by rw [← tk_next hx9]; exact hS
  exact ⟨_, by omega, i + 1, rfl, by omega, ha.keeps [0, 3, 4] _ rfl, hS⟩
 refine jK ha rfl (decide_eq_false c1) ?_
 refine wp_exit (qJ (qJ (in_x (jJ (wp_seq (jQ [0, 1] (jX [(0, 21, .slice o.A o.n o.c), (1, 2, .slice o.A o.n o.c)] ha fun a ha => ?_)))))))
 refine jY (jJ (wp_ret (jV ha (by kernel_rfl) (qX (t := 2) ha rfl) ?_)))
 have hie : i = l.length := by omega
 rw [tk_end hie] at hS
 exact ⟨o, rfl, by rw [encJ_I]; exact hS⟩
theorem toIntS_sat {w0 w : World} {Rs : List Asn} {sa : Sl} {l : List Int} (hS : Sat w0 w Rs) (hra : RdI w sa l) (hbig : l.length ≤ 4000000) :
  Calls Try.prog 38 #[.slice sa.A sa.n sa.c] w (Ret fun r w' => ∃ o : Sl, r = .slice o.A o.n o.c ∧ Sat w0 w' (SX.row (.slice o.A o.n o.c) 3 1 (encI l) :: Rs)) :=
 (toIntS_sat0 hra hbig).mono fun e w' h => by
  cases e with
  | returned r => obtain ⟨o, h1, h2⟩ := h; exact ⟨o, h1, hS.comp h2⟩
  | _ => exact h.elim
theorem code28 : Try.f28.body = some (Code.seq (cr Try.f28 0 false) (Code.seq (Code.seq (cr Try.f28 1 false) (Code.cond (Operand.tmp 10) (Code.seq (cr Try.f28 2 false) Code.ret) Code.skip)) (Code.seq (Code.seq (cr Try.f28 3 false) (Code.block 0 (Code.loop (Code.seq (Code.seq (cr Try.f28 4 false) (Code.cond (Operand.tmp 14) Code.skip (Code.exit 0))) (Code.seq (Code.block 1 (Code.seq (cr Try.f28 6 true) (Code.cond (Operand.tmp 25) (Code.seq (cr Try.f28 7 false) Code.ret) Code.skip))) (cr Try.f28 5 false)))))) (Code.seq (cr Try.f28 8 false) Code.ret)))) := by kernel_rfl
theorem eqIntS_sat0 {w0 : World} {sa sb : Sl} {l : List Int} (hra : RdI w0 sa l) (hrb : RdI w0 sb l) :
  Calls Try.prog 28 #[.slice sa.A sa.n sa.c, .slice sb.A sb.n sb.c] w0 (Ret fun r w' => r = .bool true ∧ Sat w0 w' []) := by
 have hS : Sat w0 w0 [] := Sat.start w0
 have hbig := hra.big
 have hlen := hra.len
 have hlen2 := hrb.len
 refine enter (n := 26) Try.func28 code28 (by kernel_rfl) (Nat.le_of_ble_eq_true rfl) (fun a ha => ?_)
 replace ha : Has 26 [(0, .slice sa.A sa.n sa.c), (1, .slice sb.A sb.n sb.c)] a := ha
 refine wp_seq (jQ [0] (jX [(0, 4, .bool false)] ha fun a ha => ?_))
 refine jY (jJ (wp_seq (wp_seq (jQ [0, 1, 2, 3, 4] (jX [(0, 6, .slice sa.A sa.n sa.c), (1, 7, iv (sa.n : Int)), (2, 8, .slice sb.A sb.n sb.c), (3, 9, iv (sb.n : Int)), (4, 10, .bool (!(decide ((sa.n : Int) = (sb.n : Int)))))] ha fun a ha => ?_)))))
 refine jY (jJ ?_)
 by_cases c1 : (sa.n : Int) = (sb.n : Int)
 ·
  refine jK ha rfl (qG (decide_eq_true c1)) ?_
  refine wp_skip (jJ (wp_seq (wp_seq (jQ [0] (jX [(0, 5, iv 0)] ha fun a ha => ?_)))))
  refine jY (jJ (wp_block ?_))
  refine wp_loop_ghost (fun n_ a_ w_ => ∃ (i : Nat), n_ = l.length - i ∧ (i ≤ l.length) ∧ Has 26 [(0, .slice sa.A sa.n sa.c), (1, .slice sb.A sb.n sb.c), (5, iv (i : Int))] a_ ∧ Sat w0 w_ ([])) _ ⟨0, rfl, Nat.zero_le _, ha.keeps [0, 1, 5] _ rfl, hS⟩ ?_
  rintro n_ a w ⟨i, rfl, hi, ha, hS⟩
  refine wp_seq (wp_seq (jQ [0, 1, 2, 3] (jX [(0, 11, iv (i : Int)), (1, 12, .slice sa.A sa.n sa.c), (2, 13, iv (sa.n : Int)), (3, 14, .bool (decide ((i : Int) < (sa.n : Int))))] ha fun a ha => ?_)))
  refine jY (jJ ?_)
  by_cases c2 : (i : Int) < (sa.n : Int)
  ·
   have hlt : i < l.length := by omega
   obtain ⟨x9, hx9⟩ : ∃ x, l[i]? = some x := ⟨_, List.getElem?_eq_getElem hlt⟩;refine jW ha rfl (decide_eq_true c2) ?_;refine wp_skip (jJ (wp_seq (wp_block (wp_seq (yW 9 9 hS fun w hS => ?_)))));refine xJ (k := 7) [(0, 17, .slice sa.A sa.n sa.c), (1, 18, iv (i : Int))] ha (.inr hS) fun a ha => ?_;refine xZ 2 (.pointer (some ⟨bk sa, of_ sa + i * 1, none⟩)) ha (jH (el := 3) (sz := 1) (j := i) ha (qV (t := 37) (x := 17) (y := 18) (d := 19)) rfl rfl (by kernel_rfl) (by kernel_rfl) ((hra.sat hS).at_ ((List.getElem?_eq_some_iff.1 hx9).1)).1 (by rw [((hra.sat hS)).len]; exact (List.getElem?_eq_some_iff.1 hx9).1)) (.inr hS) fun a ha => ?_;refine yQ 3 (iv x9) ha (qQ (p := ⟨bk sa, of_ sa + i * 1, none⟩) ha (qU (t := 3) (x := 19) (d := 20) (ty := 3)) rfl (by kernel_rfl) (fun w' hw => by rw [Nat.mul_one, ← getD_at hx9]; exact (((hra.sat hw)).at_ ((List.getElem?_eq_some_iff.1 hx9).1)).2)) hS fun a ha => ?_;refine xJ (k := 3) [(4, 21, .slice sb.A sb.n sb.c), (5, 22, iv (i : Int))] ha (.inr hS) fun a ha => ?_;refine xZ 6 (.pointer (some ⟨bk sb, of_ sb + i * 1, none⟩)) ha (jH (el := 3) (sz := 1) (j := i) ha (qV (t := 37) (x := 21) (y := 22) (d := 23)) rfl rfl (by kernel_rfl) (by kernel_rfl) ((hrb.sat hS).at_ ((List.getElem?_eq_some_iff.1 hx9).1)).1 (by rw [((hrb.sat hS)).len]; exact (List.getElem?_eq_some_iff.1 hx9).1)) (.inr hS) fun a ha => ?_;refine yQ 7 (iv x9) ha (qQ (p := ⟨bk sb, of_ sb + i * 1, none⟩) ha (qU (t := 3) (x := 23) (d := 24) (ty := 3)) rfl (by kernel_rfl) (fun w' hw => by rw [Nat.mul_one, ← getD_at hx9]; exact (((hrb.sat hw)).at_ ((List.getElem?_eq_some_iff.1 hx9).1)).2)) hS fun a ha => ?_;refine xZ 8 (.bool false) ha ((qW (v := .bool (!(decide (x9 = x9)))) ha (xX (op := (Op.binOp BinOp.neq 3 (Operand.tmp 20) (Operand.tmp 24) 3)) (d := some 25) (ty := 4)) (by kernel_rfl) (fun _ => by kernel_rfl)).as (by simp)) (.inr hS) fun a ha => ?_;refine xG (jJ ?_);refine jK ha rfl rfl ?_;refine wp_skip (in_n (jJ (jQ [0, 1, 2] (jX [(0, 15, iv (i : Int))] ha fun a ha => ?_))));refine qZ 16 ((i : Int) + 1) ha fun a ha => ?_;refine jX [(2, 5, iv ((i : Int) + 1))] ha fun a ha => ?_;refine jY (jJ ?_);exact ⟨_, by omega, i + 1, rfl, by omega, ha.keeps [0, 1, 5] _ rfl, hS⟩
  refine jK ha rfl (decide_eq_false c2) ?_
  refine wp_exit (qJ (qJ (in_x (jJ (wp_seq (jQ [0] (jX [(0, 4, .bool true)] ha fun a ha => ?_)))))))
  refine jY (jJ (wp_ret (jV ha (by kernel_rfl) (qX (t := 4) ha rfl) ?_)))
  exact ⟨rfl, hS⟩
 refine jW ha rfl (qH (decide_eq_false c1)) ?_
 refine wp_seq (jQ [0] (jX [(0, 4, .bool false)] ha fun a ha => ?_))
 refine jY (jJ (wp_ret (qK ?_)))
 exfalso; omega
theorem eqIntS_sat {w0 w : World} {Rs : List Asn} {sa sb : Sl} {l : List Int} (hS : Sat w0 w Rs) (hra : RdI w sa l) (hrb : RdI w sb l) :
  Calls Try.prog 28 #[.slice sa.A sa.n sa.c, .slice sb.A sb.n sb.c] w (Ret fun r w' => r = .bool true ∧ Sat w0 w' Rs) := lift0 hS (eqIntS_sat0 hra hrb)
theorem code29 : Try.f29.body = some (Code.seq (cr Try.f29 0 false) (Code.seq (Code.seq (cr Try.f29 1 false) (Code.block 0 (Code.loop (Code.seq (Code.seq (cr Try.f29 2 false) (Code.cond (Operand.tmp 9) Code.skip (Code.exit 0))) (Code.seq (Code.block 1 (Code.seq (cr Try.f29 4 false) (cr Try.f29 5 false))) (cr Try.f29 3 false)))))) (Code.seq (cr Try.f29 6 false) Code.ret))) := by kernel_rfl
theorem markG_sat {w0 w : World} {Rs : List Asn} {o : Sl} {l : List Int} {k0 : Int} (hS : Sat w0 w (SX.row (.slice o.A o.n o.c) 3 1 (encI l) :: Rs)) (h0 : 0 ≤ k0) (h1 : k0 ≤ 100000000) (hl : l.length ≤ 4000000) :
  Calls Try.prog 29 #[.slice o.A o.n o.c, .int .i64 k0] w (Ret fun r w' => r = .int .i64 (k0 + (l.length : Int)) ∧ Sat w0 w' (SX.row (.slice o.A o.n o.c) 3 1 (encI (mkG k0 l.length)) :: Rs)) := by
 have hlen := (hS.rdRow (s := o) 0 rfl).len
 replace hS : Sat w0 w (SX.row (.slice o.A o.n o.c) 3 1 (encJ l) :: Rs) := by rw [← encJ_I]; exact hS
 refine enter (n := 19) Try.func29 code29 (by kernel_rfl) (Nat.le_of_ble_eq_true rfl) (fun a ha => ?_)
 replace ha : Has 19 [(0, .slice o.A o.n o.c), (1, iv k0)] a := ha
 refine wp_seq (jQ [0] (jX [(0, 4, iv 0)] ha fun a ha => ?_))
 refine jY (jJ (wp_seq (wp_seq (jQ [0] (jX [(0, 5, iv 0)] ha fun a ha => ?_)))))
 refine jY (jJ (wp_block ?_))
 replace hS : Sat w0 w ((SX.row (.slice o.A o.n o.c) 3 1 (encJ (mkG k0 0 ++ l.drop 0))) :: Rs) := hS
 refine wp_loop_ghost (fun n_ a_ w_ => ∃ (i : Nat) (k : Int), n_ = l.length - i ∧ (i ≤ l.length) ∧ (k = k0 + (i : Int)) ∧ Has 19 [(0, .slice o.A o.n o.c), (1, iv k), (5, iv (i : Int))] a_ ∧ Sat w0 w_ ((SX.row (.slice o.A o.n o.c) 3 1 (encJ (mkG k0 i ++ l.drop i))) :: Rs)) _ ⟨0, k0, rfl, Nat.zero_le _, by omega, ha.keeps [0, 1, 5] _ rfl, hS⟩ ?_
 rintro n_ a w ⟨i, k, rfl, hi, hk, ha, hS⟩
 refine wp_seq (wp_seq (jQ [0, 1, 2, 3] (jX [(0, 6, iv (i : Int)), (1, 7, .slice o.A o.n o.c), (2, 8, iv (o.n : Int)), (3, 9, .bool (decide ((i : Int) < (o.n : Int))))] ha fun a ha => ?_)))
 refine jY (jJ ?_)
 by_cases c1 : (i : Int) < (o.n : Int)
 ·
  have hlt : i < l.length := by omega
  obtain ⟨z, hz⟩ := mkG_some (k0 := k0) hlt
  refine jW ha rfl (decide_eq_true c1) ?_
  refine wp_skip (jJ (wp_seq (wp_block (wp_seq (jQ [0, 1, 2, 3, 4] (jX [(0, 12, .slice o.A o.n o.c), (1, 13, iv (i : Int)), (2, 14, iv k)] ha fun a ha => ?_))))))
  refine jU (.pointer (some ⟨bk o, i * 1, none⟩)) ha (xK (s := o) (el := 3) (sz := 1) (j := i) ha (qV (t := 37) (x := 12) (y := 13) (d := 15)) rfl rfl (by kernel_rfl) (by kernel_rfl) (hS.rowA (s := o) 0 rfl (by have := (List.getElem?_eq_some_iff.1 hz).1; rw [encJ_length]; omega)) (rfl) (by have h9 := hS.rowL (s := o) (enc := cellsJ) 0 cellsJ_len (by decide) rfl; have := (List.getElem?_eq_some_iff.1 hz).1; omega)) fun a ha => ?_
  refine jZ (xW (s := o) (j := i * 1 + 0) (xs := encJ (mkG k0 i ++ l.drop i)) (xs' := encJ ((mkG k0 i ++ l.drop i).set i k)) 0 ha (yG (t := 3) (x := 15) (y := 14)) rfl rfl rfl (by kernel_rfl) hS rfl (by have := (List.getElem?_eq_some_iff.1 hz).1; rw [encJ_length]; omega) ((flat_set (enc := cellsJ) (x' := k) cellsJ_len hz (by decide) rfl)) (fun w a (hS : Sat w0 w ((SX.row (.slice o.A o.n o.c) 3 1 (encJ ((mkG k0 i ++ l.drop i).set i k))) :: Rs)) ha => ?_))
  refine jY (jJ (jQ [0, 1, 2] (jX [(0, 16, iv k)] ha fun a ha => ?_)))
  refine qZ 17 (k + 1) ha fun a ha => ?_
  refine jX [(2, 1, iv (k + 1))] ha fun a ha => ?_
  refine jY (in_n (jJ (jQ [0, 1, 2] (jX [(0, 10, iv (i : Int))] ha fun a ha => ?_))))
  refine qZ 11 ((i : Int) + 1) ha fun a ha => ?_
  refine jX [(2, 5, iv ((i : Int) + 1))] ha fun a ha => ?_
  refine jY (jJ ?_)
  replace hS : Sat w0 w ((SX.row (.slice o.A o.n o.c) 3 1 (encJ (mkG k0 (i + 1) ++ l.drop (i + 1)))) :: Rs) := by rw [← mkG_next hk (by omega)]; exact hS
  exact ⟨_, by omega, i + 1, k + 1, rfl, by omega, by omega, ha.keeps [0, 1, 5] _ rfl, hS⟩
 refine jK ha rfl (decide_eq_false c1) ?_
 refine wp_exit (qJ (qJ (in_x (jJ (wp_seq (jQ [0, 1] (jX [(0, 18, iv k), (1, 4, iv k)] ha fun a ha => ?_)))))))
 refine jY (jJ (wp_ret (jV ha (by kernel_rfl) (qX (t := 4) ha rfl) ?_)))
 obtain rfl : i = l.length := by omega
 rw [List.drop_length, List.append_nil] at hS
 exact ⟨by rw [hk], by rw [encJ_I]; exact hS⟩
theorem code30 : Try.f30.body = some (Code.seq (cr Try.f30 0 false) (Code.seq (Code.seq (cr Try.f30 1 false) (Code.block 0 (Code.loop (Code.seq (Code.seq (cr Try.f30 2 false) (Code.cond (Operand.tmp 9) Code.skip (Code.exit 0))) (Code.seq (Code.block 1 (Code.seq (Code.seq (cr Try.f30 4 false) (Code.cond (Operand.tmp 17) (Code.seq (cr Try.f30 5 false) Code.ret) Code.skip)) (cr Try.f30 6 false))) (cr Try.f30 3 false)))))) (Code.seq (cr Try.f30 7 false) Code.ret))) := by kernel_rfl
theorem heldI_sat0 {w0 : World} {o : Sl} {n : Nat} {k0 : Int} (hra : RdI w0 o (mkG k0 n)) (hl : n ≤ 4000000) (h0 : 0 ≤ k0 := by omega) (h1 : k0 ≤ 100000000 := by omega) :
  Calls Try.prog 30 #[.slice o.A o.n o.c, .int .i64 k0] w0 (Ret fun r w' => r = .int .i64 (k0 + (n : Int)) ∧ Sat w0 w' []) := by
 have hS : Sat w0 w0 [] := Sat.start w0
 have hlen := hra.len
 rw [mkG_len] at hlen
 refine enter (n := 21) Try.func30 code30 (by kernel_rfl) (Nat.le_of_ble_eq_true rfl) (fun a ha => ?_)
 replace ha : Has 21 [(0, .slice o.A o.n o.c), (1, iv k0)] a := ha
 refine wp_seq (jQ [0] (jX [(0, 4, iv 0)] ha fun a ha => ?_))
 refine jY (jJ (wp_seq (wp_seq (jQ [0] (jX [(0, 5, iv 0)] ha fun a ha => ?_)))))
 refine jY (jJ (wp_block ?_))
 refine wp_loop_ghost (fun n_ a_ w_ => ∃ (i : Nat) (k : Int), n_ = n - i ∧ (i ≤ n) ∧ (k = k0 + (i : Int)) ∧ Has 21 [(0, .slice o.A o.n o.c), (1, iv k), (5, iv (i : Int))] a_ ∧ Sat w0 w_ ([])) _ ⟨0, k0, rfl, Nat.zero_le _, by omega, ha.keeps [0, 1, 5] _ rfl, hS⟩ ?_
 rintro n_ a w ⟨i, k, rfl, hi, hk, ha, hS⟩
 refine wp_seq (wp_seq (jQ [0, 1, 2, 3] (jX [(0, 6, iv (i : Int)), (1, 7, .slice o.A o.n o.c), (2, 8, iv (o.n : Int)), (3, 9, .bool (decide ((i : Int) < (o.n : Int))))] ha fun a ha => ?_)))
 refine jY (jJ ?_)
 by_cases c1 : (i : Int) < (o.n : Int)
 ·
  refine jW ha rfl (decide_eq_true c1) ?_
  refine wp_skip (jJ (wp_seq (wp_block (wp_seq (wp_seq (jQ [0, 1, 2, 3, 4, 5] (jX [(0, 12, .slice o.A o.n o.c), (1, 13, iv (i : Int))] ha fun a ha => ?_)))))))
  refine jU (.pointer (some ⟨bk o, of_ o + i * 1, none⟩)) ha (jH (el := 3) (sz := 1) (j := i) ha (qV (t := 37) (x := 12) (y := 13) (d := 14)) rfl rfl (by kernel_rfl) (by kernel_rfl) ((hra.sat hS).at_ (show i < (mkG k0 n).length by rw [mkG_len]; omega)).1 (by rw [((hra.sat hS)).len]; exact (show i < (mkG k0 n).length by rw [mkG_len]; omega))) fun a ha => ?_
  refine jU (iv k) ha (qQ (p := ⟨bk o, of_ o + i * 1, none⟩) ha (qU (t := 3) (x := 14) (d := 15) (ty := 3)) rfl (by kernel_rfl) (fun w' hw => by rw [hw, Nat.mul_one, ← mkG_at hk (show i < (mkG k0 n).length by rw [mkG_len]; omega)]; exact ((hra.sat hS).at_ (show i < (mkG k0 n).length by rw [mkG_len]; omega)).2)) fun a ha => ?_
  refine jX [(4, 16, iv k)] ha fun a ha => ?_
  refine jU (.bool false) ha ((qW (v := .bool (!(decide (k = k)))) ha (xX (op := (Op.binOp BinOp.neq 3 (Operand.tmp 15) (Operand.tmp 16) 3)) (d := some 17) (ty := 4)) (by kernel_rfl) (fun _ => by kernel_rfl)).as (by simp)) fun a ha => ?_
  refine jY (jJ ?_)
  refine jK ha rfl rfl ?_
  refine wp_skip (jJ (jQ [0, 1, 2] (jX [(0, 18, iv k)] ha fun a ha => ?_)))
  refine qZ 19 (k + 1) ha fun a ha => ?_
  refine jX [(2, 1, iv (k + 1))] ha fun a ha => ?_
  refine jY (in_n (jJ (jQ [0, 1, 2] (jX [(0, 10, iv (i : Int))] ha fun a ha => ?_))))
  refine qZ 11 ((i : Int) + 1) ha fun a ha => ?_
  refine jX [(2, 5, iv ((i : Int) + 1))] ha fun a ha => ?_
  refine jY (jJ ?_)
  exact ⟨_, by omega, i + 1, k + 1, rfl, by omega, by omega, ha.keeps [0, 1, 5] _ rfl, hS⟩
 refine jK ha rfl (decide_eq_false c1) ?_
 refine wp_exit (qJ (qJ (in_x (jJ (wp_seq (jQ [0, 1] (jX [(0, 20, iv k), (1, 4, iv k)] ha fun a ha => ?_)))))))
 refine jY (jJ (wp_ret (jV ha (by kernel_rfl) (qX (t := 4) ha rfl) ?_)))
 obtain rfl : i = n := by omega
 exact ⟨by rw [hk], hS⟩
theorem heldI_sat {w0 w : World} {Rs : List Asn} {o : Sl} {n : Nat} {k0 : Int} (hS : Sat w0 w Rs) (hra : RdI w o (mkG k0 n)) (hl : n ≤ 4000000) (h0 : 0 ≤ k0 := by omega) (h1 : k0 ≤ 100000000 := by omega) :
  Calls Try.prog 30 #[.slice o.A o.n o.c, .int .i64 k0] w (Ret fun r w' => r = .int .i64 (k0 + (n : Int)) ∧ Sat w0 w' Rs) := lift0 hS (heldI_sat0 hra hl h0 h1)
end Go.Proofs.Ytbgfiiehjaghiaa.G
