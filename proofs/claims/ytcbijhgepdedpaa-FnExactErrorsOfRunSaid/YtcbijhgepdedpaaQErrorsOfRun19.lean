/- What the claim FnExactErrorsOfRun rests on, part 19 of 22; the last part proves it: for every input the law answers true, and its arguments read behind the call as before it. No condition. -/
import Derived.Test.YtcbijhgepdedpaaQErrorsOfRun18
set_option linter.unusedSimpArgs false
set_option linter.unusedVariables false
set_option maxRecDepth 20000
set_option maxHeartbeats 1000000
namespace Go.Proofs.Ytcbijhgepdedpaa.G
open Go.RowKit Go.Proofs.Ytcbijhgepdedpaa.SX Go.Proofs.YtcbijhgepdedpaaW.PrintWords Go.Proofs.YtcbijhgepdedpaaW.PrintLast Go.Proofs.YtcbijhgepdedpaaW.PrintMore
theorem code100 : Try.f100.body = some (Code.seq (cr Try.f100 0 false) (Code.seq (cr Try.f100 1 false) Code.ret)) := by kernel_rfl
theorem own4_sat {w0 w : World} {Rs : List Asn} {s : Sl} {l : List Int} (hS : Sat w0 w (SX.row (.slice s.A s.n s.c) 3 1 (encJ l) :: Rs)) (hl : l.length ≤ 1000000) :
  Calls Try.prog 100 #[.slice s.A s.n s.c] w (Ret fun r w' => ∃ o : Sl, r = .slice o.A o.n o.c ∧ Sat w0 w' (SX.row (.slice o.A o.n o.c) 3 1 (encJ l) :: SX.row (.slice s.A s.n s.c) 3 1 (encJ l) :: Rs)) := by
 refine enter (n := 6) Try.func100 code100 (by kernel_rfl) (Nat.le_of_ble_eq_true rfl) (fun a ha => ?_)
 replace ha : Has 6 [(0, .slice s.A s.n s.c)] a := ha
 refine wp_seq (jX [0] (jQ [(0, 2, .slice none 0 0)] ha fun a ha => ?_))
 refine jY (jJ (wp_seq (jX [0, 1, 2, 3] (jZ (qJ 3 [] 3 (fun b => .slice (some ⟨b, 0, none⟩) 0 0) ha hS fun b1 w a hb2 hS ha => ?_)))))
 refine jQ [(1, 4, .slice s.A s.n s.c)] ha fun a ha => ?_
 refine jZ (o_appRow0 (m := s.n) (z := iv 0) (sz := 1) (bytes := 8) (ys' := encJ l) 0 1 ha (by decide) (zW (op := (Op.call { callee := (Callee.builtin Builtin.append), args := #[(Operand.tmp 3), (Operand.tmp 4)], argTypes := #[49, 49] })) (d := some 5) (ty := 49)) rfl rfl (by kernel_rfl) (by kernel_rfl) rfl (by decide) hS rfl rfl (Nat.le_refl _) (flat_one (fun _ => rfl) _) (by rw [encJ_length]; (try simp only [List.length_take, List.length_set, List.length_modify]); omega) (by decide) (flat_all cellsJ_len (hS.rowL (s := s) (enc := cellsJ) 1 cellsJ_len (by decide) rfl)) fun s3 w a hS hn4 ha => ?_)
 refine jQ [(3, 2, .slice s3.A s3.n s3.c)] ha fun a ha => ?_
 refine jY (jJ (wp_ret (qK ha (by kernel_rfl) (yJ (t := 2) ha rfl) ?_)))
 exact ⟨s3, rfl, hS.pickN 2 [0, 1]⟩
theorem code98 : Try.f98.body = some (Code.seq (cr Try.f98 0 false) (Code.seq (cr Try.f98 1 false) (Code.seq (cr Try.f98 2 false) (Code.seq (cr Try.f98 3 false) (Code.seq (cr Try.f98 4 false) Code.ret))))) := by kernel_rfl
theorem l4Top_sat {w0 w : World} {Rs : List Asn} {V : RV} {c : List (Bool × Int)} {p : List (Int × Int × Int)} {b : List Int} {n : Nat} {on : Int} (hS : Sat w0 w (rdA V n ⟨c, p, b⟩ :: Rs)) (hn : n ≤ 3000) (h1 : 1 ≤ c.length) :
  Calls Try.prog 98 #[.agg #[.slice V.ca.A V.ca.n V.ca.c, .slice V.pa.A V.pa.n V.pa.c, .slice V.de.A V.de.n V.de.c, .slice V.un.A V.un.n V.un.c, .slice V.re.A V.re.n V.re.c, .slice V.rp.A V.rp.n V.rp.c, .slice V.be.A V.be.n V.be.c], iv on] w (Ret fun r w' => ∃ V' : RV, r = .agg #[.slice V'.ca.A V'.ca.n V'.ca.c, .slice V'.pa.A V'.pa.n V'.pa.c, .slice V'.de.A V'.de.n V'.de.c, .slice V'.un.A V'.un.n V'.un.c, .slice V'.re.A V'.re.n V'.re.c, .slice V'.rp.A V'.rp.n V'.rp.c, .slice V'.be.A V'.be.n V'.be.c] ∧ Sat w0 w' (rdA V' n (SX.putAt ⟨c, p, b⟩ 1 on) :: Rs)) := by
 obtain ⟨X, hX, hS⟩ := openRd hS
 replace hS : Sat w0 w ((RwB V.ca c) :: (RwE V.pa p) :: (RwJ V.de X.dep) :: (RwU V.un X.uw) :: (jW (X.uw.map unwN)) :: (RwR V.re X.rcs) :: (RwJ V.rp X.rep) :: (RwJ V.be b) :: Rs) := hS
 have hX1 := hX.kc
 have hX2 := hX.kp
 have hX3 := hX.kd
 have hX4 := hX.ku
 have hX5 := hX.kr
 have hX6 := hX.krp
 have hX7 := hX.kb
 have hnca : V.ca.n = _ := hS.rowL (s := V.ca) (enc := cellsB) 0 cellsB_len (by decide) rfl
 have hnpa : V.pa.n = _ := hS.rowL (s := V.pa) (enc := cellsE) 1 zU (by decide) rfl
 have hnde : V.de.n = _ := hS.rowL (s := V.de) (enc := cellsJ) 2 cellsJ_len (by decide) rfl
 have hnun : V.un.n = _ := hS.rowL (s := V.un) (enc := cellsU) 3 cellsU_len (by decide) rfl
 have hnre : V.re.n = _ := hS.rowL (s := V.re) (enc := cellsR) 5 yG (by decide) rfl
 have hnrp : V.rp.n = _ := hS.rowL (s := V.rp) (enc := cellsJ) 6 cellsJ_len (by decide) rfl
 have hnbe : V.be.n = _ := hS.rowL (s := V.be) (enc := cellsJ) 7 cellsJ_len (by decide) rfl
 refine enter (n := 20) Try.func98 code98 (by kernel_rfl) (Nat.le_of_ble_eq_true rfl) (fun a ha => ?_)
 replace ha : Has 20 [(0, .agg #[.slice V.ca.A V.ca.n V.ca.c, .slice V.pa.A V.pa.n V.pa.c, .slice V.de.A V.de.n V.de.c, .slice V.un.A V.un.n V.un.c, .slice V.re.A V.re.n V.re.c, .slice V.rp.A V.rp.n V.rp.c, .slice V.be.A V.be.n V.be.c]), (1, iv on)] a := ha
 refine wp_seq (jX [0, 1] (jZ (qJ 2 [.slice V.ca.A V.ca.n V.ca.c, .slice V.pa.A V.pa.n V.pa.c, .slice V.de.A V.de.n V.de.c, .slice V.un.A V.un.n V.un.c, .slice V.re.A V.re.n V.re.c, .slice V.rp.A V.rp.n V.rp.c, .slice V.be.A V.be.n V.be.c] 107 (ptr · 0) ha hS fun b1 w a hb2 hS ha => ?_)))
 refine jZ (qJ 4 [.slice none 0 0, .slice none 0 0, .slice none 0 0, .slice none 0 0, .slice none 0 0, .slice none 0 0, .slice none 0 0] 107 (ptr · 0) ha hS fun b3 w a hb4 hS ha => ?_)
 refine jY (jJ (wp_seq (jX [0, 1, 2, 3, 4] (jZ (qJ 6 [] 149 (fun b => .slice (some ⟨b, 0, none⟩) 0 0) ha hS fun b5 w a hb6 hS ha => ?_)))))
 refine jQ [(1, 7, ptr b1 0)] ha fun a ha => ?_
 refine jU (d := 8) (b := b1) (j := 0) ha (hS.blk 2 rfl) rfl fun a ha => ?_
 refine jZ (o_appRow0 (m := V.ca.n) (z := .agg #[.bool false, iv 0]) (sz := 2) (bytes := 16) (ys' := encB c) 0 3 ha (by decide) (zW (op := (Op.call { callee := (Callee.builtin Builtin.append), args := #[(Operand.tmp 6), (Operand.tmp 8)], argTypes := #[103, 103] })) (d := some 9) (ty := 103)) rfl rfl (by kernel_rfl) (by kernel_rfl) rfl (by decide) hS rfl rfl (Nat.le_refl _) (flat_one (fun _ => rfl) _) (by rw [encB_length]; (try simp only [List.length_take, List.length_set, List.length_modify]); omega) (by decide) (flat_all cellsB_len (hS.rowL (s := V.ca) (enc := cellsB) 3 cellsB_len (by decide) rfl)) fun s7 w a hS hn8 ha => ?_)
 refine jQ [(4, 5, .slice s7.A s7.n s7.c)] ha fun a ha => ?_
 refine jY (jJ (wp_seq ?_))
 have hz := hS.rowL (s := s7) (enc := cellsB) 0 cellsB_len (by decide) rfl
 obtain ⟨x, hx⟩ : ∃ x, c[c.length - 1]? = some x := ⟨_, List.getElem?_eq_getElem (by omega)⟩
 refine jX [0, 1, 2, 3, 4, 5, 6, 7] (jQ [(0, 10, .slice s7.A s7.n s7.c), (1, 11, .slice s7.A s7.n s7.c), (2, 12, iv (s7.n : Int))] ha fun a ha => ?_)
 refine zJ 13 ((s7.n : Int) - 1) ha fun a ha => ?_
 refine jQ [(4, 14, iv on)] ha fun a ha => ?_
 refine xU (.pointer (some ⟨bk s7, (c.length - 1) * 2, none⟩)) ha (xW (s := s7) (el := 149) (sz := 2) (j := (c.length - 1)) ha (yU (t := 103) (x := 10) (y := 13) (d := 15)) rfl rfl (by kernel_rfl) (by kernel_rfl) (hS.rowA (s := s7) 0 rfl (by have := (List.getElem?_eq_some_iff.1 hx).1; rw [encB_length]; omega)) ((by omega)) (by have h9 := hS.rowL (s := s7) (enc := cellsB) 0 cellsB_len (by decide) rfl; have := (List.getElem?_eq_some_iff.1 hx).1; omega)) fun a ha => ?_
 refine jQ [(6, 16, .pointer (some ⟨bk s7, (c.length - 1) * 2 + 1, none⟩))] ha fun a ha => ?_
 refine jZ (zZ (s := s7) (j := (c.length - 1) * 2 + 1) (xs := encB c) (xs' := encB (c.set (c.length - 1) (x.1, on))) 0 ha (qU (t := 3) (x := 16) (y := 14)) rfl rfl rfl (by kernel_rfl) hS rfl (by have := (List.getElem?_eq_some_iff.1 hx).1; rw [encB_length]; omega) ((flat_set (enc := cellsB) (x' := (x.1, on)) cellsB_len hx (by decide) rfl)) (fun w a (hS : Sat w0 w ((RwB s7 (c.set (c.length - 1) (x.1, on))) :: (RB0 b3) :: (RB b1 V.ca V.pa V.de V.un V.re V.rp V.be) :: (RwB V.ca c) :: (RwE V.pa p) :: (RwJ V.de X.dep) :: (RwU V.un X.uw) :: (jW (X.uw.map unwN)) :: (RwR V.re X.rcs) :: (RwJ V.rp X.rep) :: (RwJ V.be b) :: Rs)) ha => ?_))
 refine jY (jJ (wp_seq (jX [0, 1, 2] (jQ [(0, 17, .slice s7.A s7.n s7.c), (1, 18, ptr b1 0)] ha fun a ha => ?_))))
 refine jZ (qH b1 0 (.slice s7.A s7.n s7.c) 2 ha hS rfl rfl fun w a hS ha => ?_)
 refine jY (jJ (wp_seq (jX [0, 1] (xG 19 ha (hS.blk 2 rfl) fun a ha => ?_))))
 refine jZ (o_sa 1 ha (qU (t := 107) (x := 4) (y := 19)) hS fun w a hS ha => ?_)
 refine jY (jJ (wp_ret (qK ha (by kernel_rfl) (xZ (t := 4) (ty := 107) (i := 1) ha rfl hS rfl (by kernel_rfl)) ?_)))
 replace hS := hS.pickN 11 [0, 4, 5, 6, 7, 8, 9, 10]
 replace hS : Sat w0 w ((rdA ⟨s7, V.pa, V.de, V.un, V.re, V.rp, V.be⟩ n ⟨(c.set (c.length - 1) (x.1, on)), p, b⟩) :: Rs) := shutRd (V := ⟨s7, V.pa, V.de, V.un, V.re, V.rp, V.be⟩) ⟨X.dep, X.uw, X.rcs, X.rep⟩ (by refine ⟨?_, ?_, ?_, ?_, ?_, ?_, ?_, hX.kul⟩ <;> (try simp only [List.length_set, List.length_modify, List.length_append, List.length_take, List.length_cons, List.length_nil]) <;> omega) hS
 rw [putAt_of hx]
 exact ⟨⟨s7, V.pa, V.de, V.un, V.re, V.rp, V.be⟩, rfl, hS.pickN 1 [0]⟩
theorem code99 : Try.f99.body = some (Code.seq (cr Try.f99 0 false) (Code.seq (cr Try.f99 1 false) (Code.seq (cr Try.f99 2 false) (Code.seq (cr Try.f99 3 false) Code.ret)))) := by kernel_rfl
theorem l4Fate_sat {w0 w : World} {Rs : List Asn} {V : RV} {c : List (Bool × Int)} {p : List (Int × Int × Int)} {b : List Int} {n : Nat} {k fate : Int} (hS : Sat w0 w (rdA V n ⟨c, p, b⟩ :: Rs)) (hn : n ≤ 3000) (hk : 0 ≤ k ∧ k < (p.length : Int)) :
  Calls Try.prog 99 #[.agg #[.slice V.ca.A V.ca.n V.ca.c, .slice V.pa.A V.pa.n V.pa.c, .slice V.de.A V.de.n V.de.c, .slice V.un.A V.un.n V.un.c, .slice V.re.A V.re.n V.re.c, .slice V.rp.A V.rp.n V.rp.c, .slice V.be.A V.be.n V.be.c], iv k, iv fate] w (Ret fun r w' => ∃ V' : RV, r = .agg #[.slice V'.ca.A V'.ca.n V'.ca.c, .slice V'.pa.A V'.pa.n V'.pa.c, .slice V'.de.A V'.de.n V'.de.c, .slice V'.un.A V'.un.n V'.un.c, .slice V'.re.A V'.re.n V'.re.c, .slice V'.rp.A V'.rp.n V'.rp.c, .slice V'.be.A V'.be.n V'.be.c] ∧ Sat w0 w' (rdA V' n ⟨c, p.modify k.toNat fun z => (z.1, z.2.1, fate), b⟩ :: Rs)) := by
 obtain ⟨X, hX, hS⟩ := openRd hS
 replace hS : Sat w0 w ((RwB V.ca c) :: (RwE V.pa p) :: (RwJ V.de X.dep) :: (RwU V.un X.uw) :: (jW (X.uw.map unwN)) :: (RwR V.re X.rcs) :: (RwJ V.rp X.rep) :: (RwJ V.be b) :: Rs) := hS
 have hX1 := hX.kc
 have hX2 := hX.kp
 have hX3 := hX.kd
 have hX4 := hX.ku
 have hX5 := hX.kr
 have hX6 := hX.krp
 have hX7 := hX.kb
 have hnca : V.ca.n = _ := hS.rowL (s := V.ca) (enc := cellsB) 0 cellsB_len (by decide) rfl
 have hnpa : V.pa.n = _ := hS.rowL (s := V.pa) (enc := cellsE) 1 zU (by decide) rfl
 have hnde : V.de.n = _ := hS.rowL (s := V.de) (enc := cellsJ) 2 cellsJ_len (by decide) rfl
 have hnun : V.un.n = _ := hS.rowL (s := V.un) (enc := cellsU) 3 cellsU_len (by decide) rfl
 have hnre : V.re.n = _ := hS.rowL (s := V.re) (enc := cellsR) 5 yG (by decide) rfl
 have hnrp : V.rp.n = _ := hS.rowL (s := V.rp) (enc := cellsJ) 6 cellsJ_len (by decide) rfl
 have hnbe : V.be.n = _ := hS.rowL (s := V.be) (enc := cellsJ) 7 cellsJ_len (by decide) rfl
 refine enter (n := 19) Try.func99 code99 (by kernel_rfl) (Nat.le_of_ble_eq_true rfl) (fun a ha => ?_)
 replace ha : Has 19 [(0, .agg #[.slice V.ca.A V.ca.n V.ca.c, .slice V.pa.A V.pa.n V.pa.c, .slice V.de.A V.de.n V.de.c, .slice V.un.A V.un.n V.un.c, .slice V.re.A V.re.n V.re.c, .slice V.rp.A V.rp.n V.rp.c, .slice V.be.A V.be.n V.be.c]), (1, iv k), (2, iv fate)] a := ha
 refine wp_seq (jX [0, 1] (jZ (qJ 3 [.slice V.ca.A V.ca.n V.ca.c, .slice V.pa.A V.pa.n V.pa.c, .slice V.de.A V.de.n V.de.c, .slice V.un.A V.un.n V.un.c, .slice V.re.A V.re.n V.re.c, .slice V.rp.A V.rp.n V.rp.c, .slice V.be.A V.be.n V.be.c] 107 (ptr · 0) ha hS fun b1 w a hb2 hS ha => ?_)))
 refine jZ (qJ 6 [.slice none 0 0, .slice none 0 0, .slice none 0 0, .slice none 0 0, .slice none 0 0, .slice none 0 0, .slice none 0 0] 107 (ptr · 0) ha hS fun b3 w a hb4 hS ha => ?_)
 refine jY (jJ (wp_seq (jX [0, 1, 2, 3, 4, 5] (jZ (qJ 7 [] 109 (fun b => .slice (some ⟨b, 0, none⟩) 0 0) ha hS fun b5 w a hb6 hS ha => ?_)))))
 refine jQ [(1, 8, ptr b1 1)] ha fun a ha => ?_
 refine jU (d := 9) (b := b1) (j := 1) ha (hS.blk 2 rfl) rfl fun a ha => ?_
 refine jZ (o_appRow0 (m := V.pa.n) (z := .agg #[iv 0, iv 0, iv 0]) (sz := 3) (bytes := 24) (ys' := encE p) 0 4 ha (by decide) (zW (op := (Op.call { callee := (Callee.builtin Builtin.append), args := #[(Operand.tmp 7), (Operand.tmp 9)], argTypes := #[104, 104] })) (d := some 10) (ty := 104)) rfl rfl (by kernel_rfl) (by kernel_rfl) rfl (by decide) hS rfl rfl (Nat.le_refl _) (flat_one (fun _ => rfl) _) (by rw [encE_length]; (try simp only [List.length_take, List.length_set, List.length_modify]); omega) (by decide) (flat_all zU (hS.rowL (s := V.pa) (enc := cellsE) 4 zU (by decide) rfl)) fun s7 w a hS hn8 ha => ?_)
 refine jQ [(4, 11, ptr b1 1)] ha fun a ha => ?_
 refine jZ (qH b1 1 (.slice s7.A s7.n s7.c) 2 ha hS rfl rfl fun w a hS ha => ?_)
 refine jY (jJ (wp_seq ?_))
 obtain ⟨x, hx⟩ : ∃ x, p[k.toNat]? = some x := ⟨_, List.getElem?_eq_getElem (by omega)⟩
 refine jX [0, 1, 2, 3, 4, 5, 6] (jQ [(0, 12, ptr b1 1)] ha fun a ha => ?_)
 refine jU (d := 13) (b := b1) (j := 1) ha (hS.blk 2 rfl) rfl fun a ha => ?_
 refine jQ [(2, 14, iv k), (3, 15, iv fate)] ha fun a ha => ?_
 refine xU (.pointer (some ⟨bk s7, k.toNat * 3, none⟩)) ha (xW (s := s7) (el := 109) (sz := 3) (j := k.toNat) ha (yU (t := 104) (x := 13) (y := 14) (d := 16)) rfl rfl (by kernel_rfl) (by kernel_rfl) (hS.rowA (s := s7) 0 rfl (by have := (List.getElem?_eq_some_iff.1 hx).1; rw [encE_length]; omega)) ((Int.toNat_of_nonneg hk.1).symm) (by have h9 := hS.rowL (s := s7) (enc := cellsE) 0 zU (by decide) rfl; have := (List.getElem?_eq_some_iff.1 hx).1; omega)) fun a ha => ?_
 refine jQ [(5, 17, .pointer (some ⟨bk s7, k.toNat * 3 + 2, none⟩))] ha fun a ha => ?_
 refine jZ (zZ (s := s7) (j := k.toNat * 3 + 2) (xs := encE p) (xs' := encE (p.set k.toNat (x.1, x.2.1, fate))) 0 ha (qU (t := 3) (x := 17) (y := 15)) rfl rfl rfl (by kernel_rfl) hS rfl (by have := (List.getElem?_eq_some_iff.1 hx).1; rw [encE_length]; omega) ((flat_set (enc := cellsE) (x' := (x.1, x.2.1, fate)) zU hx (by decide) rfl)) (fun w a (hS : Sat w0 w ((RwE s7 (p.set k.toNat (x.1, x.2.1, fate))) :: (RB0 b3) :: (RB b1 V.ca s7 V.de V.un V.re V.rp V.be) :: (RwB V.ca c) :: (RwE V.pa p) :: (RwJ V.de X.dep) :: (RwU V.un X.uw) :: (jW (X.uw.map unwN)) :: (RwR V.re X.rcs) :: (RwJ V.rp X.rep) :: (RwJ V.be b) :: Rs)) ha => ?_))
 refine jY (jJ (wp_seq (jX [0, 1] (xG 18 ha (hS.blk 2 rfl) fun a ha => ?_))))
 refine jZ (o_sa 1 ha (qU (t := 107) (x := 6) (y := 18)) hS fun w a hS ha => ?_)
 refine jY (jJ (wp_ret (qK ha (by kernel_rfl) (xZ (t := 6) (ty := 107) (i := 1) ha rfl hS rfl (by kernel_rfl)) ?_)))
 replace hS : Sat w0 w ((RwE s7 (p.modify k.toNat fun z => (z.1, z.2.1, fate))) :: (RB b3 V.ca s7 V.de V.un V.re V.rp V.be) :: (RB b1 V.ca s7 V.de V.un V.re V.rp V.be) :: (RwB V.ca c) :: (RwE V.pa p) :: (RwJ V.de X.dep) :: (RwU V.un X.uw) :: (jW (X.uw.map unwN)) :: (RwR V.re X.rcs) :: (RwJ V.rp X.rep) :: (RwJ V.be b) :: Rs) := by rw [← set_mod3 hx]; exact hS
 replace hS := hS.pickN 11 [3, 0, 5, 6, 7, 8, 9, 10]
 replace hS : Sat w0 w ((rdA ⟨V.ca, s7, V.de, V.un, V.re, V.rp, V.be⟩ n ⟨c, (p.modify k.toNat fun z => (z.1, z.2.1, fate)), b⟩) :: Rs) := shutRd (V := ⟨V.ca, s7, V.de, V.un, V.re, V.rp, V.be⟩) ⟨X.dep, X.uw, X.rcs, X.rep⟩ (by refine ⟨?_, ?_, ?_, ?_, ?_, ?_, ?_, hX.kul⟩ <;> (try simp only [List.length_set, List.length_modify, List.length_append, List.length_take, List.length_cons, List.length_nil]) <;> omega) hS
 exact ⟨⟨V.ca, s7, V.de, V.un, V.re, V.rp, V.be⟩, rfl, hS.pickN 1 [0]⟩
theorem code80 : Try.f80.body = some (Code.seq (cr Try.f80 0 false) (Code.seq (cr Try.f80 1 false) (Code.seq (cr Try.f80 2 false) (Code.seq (cr Try.f80 3 false) (Code.seq (cr Try.f80 4 false) (Code.seq (cr Try.f80 5 false) (Code.seq (cr Try.f80 6 false) Code.ret))))))) := by kernel_rfl
theorem l4Panic_sat {w0 w : World} {Rs : List Asn} {V : RV} {c : List (Bool × Int)} {p : List (Int × Int × Int)} {b : List Int} {n : Nat} {ek ef ev : Int} (hS : Sat w0 w (rdA V n ⟨c, p, b⟩ :: Rs)) (hn : n ≤ 2000) (h1 : 1 ≤ c.length) :
  Calls Try.prog 80 #[.agg #[.slice V.ca.A V.ca.n V.ca.c, .slice V.pa.A V.pa.n V.pa.c, .slice V.de.A V.de.n V.de.c, .slice V.un.A V.un.n V.un.c, .slice V.re.A V.re.n V.re.c, .slice V.rp.A V.rp.n V.rp.c, .slice V.be.A V.be.n V.be.c], .agg #[iv ek, iv ef, iv ev]] w (Ret fun r w' => ∃ V' : RV, r = .agg #[.slice V'.ca.A V'.ca.n V'.ca.c, .slice V'.pa.A V'.pa.n V'.pa.c, .slice V'.de.A V'.de.n V'.de.c, .slice V'.un.A V'.un.n V'.un.c, .slice V'.re.A V'.re.n V'.re.c, .slice V'.rp.A V'.rp.n V'.rp.c, .slice V'.be.A V'.be.n V'.be.c] ∧ Sat w0 w' (rdA V' (n + 1) (SX.panR ⟨c, p, b⟩ ef ev) :: Rs)) := by
 obtain ⟨X, hX, hS⟩ := openRd hS
 replace hS : Sat w0 w ((RwB V.ca c) :: (RwE V.pa p) :: (RwJ V.de X.dep) :: (RwU V.un X.uw) :: (jW (X.uw.map unwN)) :: (RwR V.re X.rcs) :: (RwJ V.rp X.rep) :: (RwJ V.be b) :: Rs) := hS
 have hX1 := hX.kc
 have hX2 := hX.kp
 have hX3 := hX.kd
 have hX4 := hX.ku
 have hX5 := hX.kr
 have hX6 := hX.krp
 have hX7 := hX.kb
 have hnca : V.ca.n = _ := hS.rowL (s := V.ca) (enc := cellsB) 0 cellsB_len (by decide) rfl
 have hnpa : V.pa.n = _ := hS.rowL (s := V.pa) (enc := cellsE) 1 zU (by decide) rfl
 have hnde : V.de.n = _ := hS.rowL (s := V.de) (enc := cellsJ) 2 cellsJ_len (by decide) rfl
 have hnun : V.un.n = _ := hS.rowL (s := V.un) (enc := cellsU) 3 cellsU_len (by decide) rfl
 have hnre : V.re.n = _ := hS.rowL (s := V.re) (enc := cellsR) 5 yG (by decide) rfl
 have hnrp : V.rp.n = _ := hS.rowL (s := V.rp) (enc := cellsJ) 6 cellsJ_len (by decide) rfl
 have hnbe : V.be.n = _ := hS.rowL (s := V.be) (enc := cellsJ) 7 cellsJ_len (by decide) rfl
 refine enter (n := 45) Try.func80 code80 (by kernel_rfl) (Nat.le_of_ble_eq_true rfl) (fun a ha => ?_)
 replace ha : Has 45 [(0, .agg #[.slice V.ca.A V.ca.n V.ca.c, .slice V.pa.A V.pa.n V.pa.c, .slice V.de.A V.de.n V.de.c, .slice V.un.A V.un.n V.un.c, .slice V.re.A V.re.n V.re.c, .slice V.rp.A V.rp.n V.rp.c, .slice V.be.A V.be.n V.be.c]), (1, .agg #[iv ek, iv ef, iv ev])] a := ha
 refine wp_seq (jX [0, 1, 2] (jZ (qJ 2 [.slice V.ca.A V.ca.n V.ca.c, .slice V.pa.A V.pa.n V.pa.c, .slice V.de.A V.de.n V.de.c, .slice V.un.A V.un.n V.un.c, .slice V.re.A V.re.n V.re.c, .slice V.rp.A V.rp.n V.rp.c, .slice V.be.A V.be.n V.be.c] 107 (ptr · 0) ha hS fun b1 w a hb2 hS ha => ?_)))
 refine jZ (qJ 3 [iv ek, iv ef, iv ev] 57 (ptr · 0) ha hS fun b3 w a hb4 hS ha => ?_)
 refine jZ (qJ 4 [.slice none 0 0, .slice none 0 0, .slice none 0 0, .slice none 0 0, .slice none 0 0, .slice none 0 0, .slice none 0 0] 107 (ptr · 0) ha hS fun b5 w a hb6 hS ha => ?_)
 refine jY (jJ (wp_seq (jX [0, 1, 2, 3, 4, 5, 6, 7, 8, 9, 10] (jQ [(0, 5, ptr b1 1)] ha fun a ha => ?_))))
 refine jU (d := 6) (b := b1) (j := 1) ha (hS.blk 2 rfl) rfl fun a ha => ?_
 refine jQ [(2, 7, ptr b3 1)] ha fun a ha => ?_
 refine jU (d := 8) (b := b3) (j := 1) ha (hS.blk 1 rfl) rfl fun a ha => ?_
 refine jQ [(4, 9, ptr b3 2)] ha fun a ha => ?_
 refine jU (d := 10) (b := b3) (j := 2) ha (hS.blk 1 rfl) rfl fun a ha => ?_
 refine jQ [(6, 11, .agg #[iv ef, iv ev, iv 0])] ha fun a ha => ?_
 refine jZ (qJ 12 [iv ef, iv ev, iv 0] 109 (fun b => .slice (some ⟨b, 0, none⟩) 1 1) ha hS fun b7 w a hb8 hS ha => ?_)
 refine jZ (o_ap 13 5 0 (encE (p ++ [(ef, ev, 0)])) ha hS rfl rfl (by rw [encE_length]; simp only [List.length_cons, List.length_nil, List.length_set, List.length_modify, List.length_append, List.length_take]; omega) (encE_snoc _ _ _ _) fun s12 w a hS hn13 ha => ?_)
 have hl_s12 : s12.n = _ := hS.rowL (s := s12) (enc := cellsE) 5 zU (by decide) rfl
 simp only [List.length_append, List.length_cons, List.length_nil] at hl_s12
 refine jQ [(9, 14, ptr b1 1)] ha fun a ha => ?_
 refine jZ (qH b1 1 (.slice s12.A s12.n s12.c) 3 ha hS rfl rfl fun w a hS ha => ?_)
 refine jY (jJ (wp_seq (jX [0, 1, 2, 3, 4, 5, 6, 7, 8] (jQ [(0, 15, ptr b1 2)] ha fun a ha => ?_))))
 refine jU (d := 16) (b := b1) (j := 2) ha (hS.blk 3 rfl) rfl fun a ha => ?_
 refine jQ [(2, 17, ptr b1 0)] ha fun a ha => ?_
 refine jU (d := 18) (b := b1) (j := 0) ha (hS.blk 3 rfl) rfl fun a ha => ?_
 refine jQ [(4, 19, iv (V.ca.n : Int))] ha fun a ha => ?_
 refine jZ (qJ 20 [iv (V.ca.n : Int)] 3 (fun b => .slice (some ⟨b, 0, none⟩) 1 1) ha hS fun b14 w a hb15 hS ha => ?_)
 refine jZ (o_ap 21 7 0 (encJ (X.dep ++ [(V.ca.n : Int)])) ha hS rfl rfl (by rw [encJ_length]; simp only [List.length_cons, List.length_nil, List.length_set, List.length_modify, List.length_append, List.length_take]; omega) (encJ_snocE _ _) fun s19 w a hS hn20 ha => ?_)
 have hl_s19 : s19.n = _ := hS.rowL (s := s19) (enc := cellsJ) 7 cellsJ_len (by decide) rfl
 simp only [List.length_append, List.length_cons, List.length_nil] at hl_s19
 refine jQ [(7, 22, ptr b1 2)] ha fun a ha => ?_
 refine jZ (qH b1 2 (.slice s19.A s19.n s19.c) 4 ha hS rfl rfl fun w a hS ha => ?_)
 refine jY ?_
 replace ha := ha.as [(2, ptr b1 0), (4, ptr b5 0)] rfl
 refine jJ (wp_seq (jX [0, 1, 2, 3, 4, 5, 6] (jQ [(0, 23, ptr b1 3)] ha fun a ha => ?_)))
 refine jU (d := 24) (b := b1) (j := 3) ha (hS.blk 4 rfl) rfl fun a ha => ?_
 refine jZ (qJ 25 [] 3 (fun b => .slice (some ⟨b, 0, none⟩) 0 0) ha hS fun b21 w a hb22 hS ha => ?_)
 refine jZ (qJ 26 [.slice (some ⟨b21, 0, none⟩) 0 0] 49 (fun b => .slice (some ⟨b, 0, none⟩) 1 1) ha hS fun b23 w a hb24 hS ha => ?_)
 refine jZ (o_ap 27 10 0 (encU (X.uw ++ [((⟨some ⟨b21, 0, none⟩, 0, 0⟩ : Sl), ([] : List Int))])) ha hS rfl rfl (by rw [encU_length]; simp only [List.length_cons, List.length_nil, List.length_set, List.length_modify, List.length_append, List.length_take]; omega) (encU_snoc _ ⟨some ⟨b21, 0, none⟩, 0, 0⟩ _) fun s28 w a hS hn29 ha => ?_)
 have hl_s28 : s28.n = _ := hS.rowL (s := s28) (enc := cellsU) 10 cellsU_len (by decide) rfl
 simp only [List.length_append, List.length_cons, List.length_nil] at hl_s28
 refine jQ [(5, 28, ptr b1 3)] ha fun a ha => ?_
 refine jZ (qH b1 3 (.slice s28.A s28.n s28.c) 6 ha hS rfl rfl fun w a hS ha => ?_)
 refine jY (jJ (wp_seq ?_))
 replace hS := hS.blk0 1 1 rfl
 replace hS := hS.pickN 15 [1, 11, 0, 2, 3, 4, 5, 6, 7, 8, 9, 10, 12, 13, 14]
 replace hS : Sat w0 w ((jW ((X.uw ++ [((⟨some ⟨b21, 0, none⟩, 0, 0⟩ : Sl), ([] : List Int))]).map unwN)) :: (SX.blk b23 [.slice (some ⟨b21, 0, none⟩) 0 0] 49) :: (SX.blk b14 [iv (V.ca.n : Int)] 3) :: (SX.blk b7 [iv ef, iv ev, iv 0] 109) :: (RB0 b5) :: (SX.blk b3 [iv ek, iv ef, iv ev] 57) :: (RB b1 V.ca s12 s19 s28 V.re V.rp V.be) :: (RwB V.ca c) :: (RwE s12 (p ++ [(ef, ev, 0)])) :: (RwJ s19 (X.dep ++ [(V.ca.n : Int)])) :: (RwU s28 (X.uw ++ [((⟨some ⟨b21, 0, none⟩, 0, 0⟩ : Sl), ([] : List Int))])) :: (RwR V.re X.rcs) :: (RwJ V.rp X.rep) :: (RwJ V.be b) :: Rs) := nilU rfl hS
 refine jX [0, 1, 2, 3, 4, 5] (jQ [(0, 29, ptr b1 5)] ha fun a ha => ?_)
 refine jU (d := 30) (b := b1) (j := 5) ha (hS.blk 6 rfl) rfl fun a ha => ?_
 refine jZ (qJ 31 [iv (-1)] 3 (fun b => .slice (some ⟨b, 0, none⟩) 1 1) ha hS fun b30 w a hb31 hS ha => ?_)
 refine jZ (o_ap 32 13 0 (encJ (X.rep ++ [(-1)])) ha hS rfl rfl (by rw [encJ_length]; simp only [List.length_cons, List.length_nil, List.length_set, List.length_modify, List.length_append, List.length_take]; omega) (encJ_snocE _ _) fun s35 w a hS hn36 ha => ?_)
 have hl_s35 : s35.n = _ := hS.rowL (s := s35) (enc := cellsJ) 13 cellsJ_len (by decide) rfl
 simp only [List.length_append, List.length_cons, List.length_nil] at hl_s35
 refine jQ [(4, 33, ptr b1 5)] ha fun a ha => ?_
 refine jZ (qH b1 5 (.slice s35.A s35.n s35.c) 7 ha hS rfl rfl fun w a hS ha => ?_)
 refine jY (jJ (wp_seq (jX [0, 1, 2, 3, 4, 5] (jQ [(0, 34, ptr b1 6)] ha fun a ha => ?_))))
 refine jU (d := 35) (b := b1) (j := 6) ha (hS.blk 7 rfl) rfl fun a ha => ?_
 refine jZ (qJ 36 [iv (-1)] 3 (fun b => .slice (some ⟨b, 0, none⟩) 1 1) ha hS fun b37 w a hb38 hS ha => ?_)
 refine jZ (o_ap 37 15 0 (encJ (b ++ [(-1)])) ha hS rfl rfl (by rw [encJ_length]; simp only [List.length_cons, List.length_nil, List.length_set, List.length_modify, List.length_append, List.length_take]; omega) (encJ_snocE _ _) fun s42 w a hS hn43 ha => ?_)
 have hl_s42 : s42.n = _ := hS.rowL (s := s42) (enc := cellsJ) 15 cellsJ_len (by decide) rfl
 simp only [List.length_append, List.length_cons, List.length_nil] at hl_s42
 refine jQ [(4, 38, ptr b1 6)] ha fun a ha => ?_
 refine jZ (qH b1 6 (.slice s42.A s42.n s42.c) 8 ha hS rfl rfl fun w a hS ha => ?_)
 refine jY ?_
 replace ha := ha.as [(2, ptr b1 0), (4, ptr b5 0)] rfl
 refine jJ (wp_seq (jX [0, 1, 2, 3, 4, 5, 6] (xG 39 ha (hS.blk 8 rfl) fun a ha => ?_)))
 refine jQ [(1, 40, ptr b1 1)] ha fun a ha => ?_
 refine jU (d := 41) (b := b1) (j := 1) ha (hS.blk 8 rfl) rfl fun a ha => ?_
 refine jQ [(3, 42, iv (s12.n : Int))] ha fun a ha => ?_
 refine zJ 43 ((s12.n : Int) - 1) ha fun a ha => ?_
 replace hS := hS.pickN 16 [9, 10, 11, 12, 2, 13, 14, 15, 6, 8]
 replace hS : Sat w0 w ((rdA ⟨V.ca, s12, s19, s28, V.re, s35, s42⟩ (n + 1) ⟨c, (p ++ [(ef, ev, 0)]), (b ++ [(-1)])⟩) :: (RB0 b5) :: (RB b1 V.ca s12 s19 s28 V.re s35 s42) :: Rs) := shutRd (V := ⟨V.ca, s12, s19, s28, V.re, s35, s42⟩) ⟨(X.dep ++ [(V.ca.n : Int)]), (X.uw ++ [((⟨some ⟨b21, 0, none⟩, 0, 0⟩ : Sl), ([] : List Int))]), X.rcs, (X.rep ++ [(-1)])⟩ (by refine ⟨?_, ?_, ?_, ?_, ?_, ?_, ?_, ul_snoc hX.kul⟩ <;> (try simp only [List.length_set, List.length_modify, List.length_append, List.length_take, List.length_cons, List.length_nil]) <;> omega) hS
 refine jZ (qG 44 (vs := [.agg #[.slice V.ca.A V.ca.n V.ca.c, .slice s12.A s12.n s12.c, .slice s19.A s19.n s19.c, .slice s28.A s28.n s28.c, .slice V.re.A V.re.n V.re.c, .slice s35.A s35.n s35.c, .slice s42.A s42.n s42.c], iv ((s12.n : Int) - 1)]) ha (l4Top_sat (V := (⟨V.ca, s12, s19, s28, V.re, s35, s42⟩ : RV)) (n := n + 1) (c := c) (p := (p ++ [(ef, ev, 0)])) (b := (b ++ [(-1)])) (on := (s12.n : Int) - 1) hS (by omega) (by omega)) fun v44 w a hp45 ha => ?_)
 obtain ⟨V1, rfl, hS⟩ := hp45
 refine jZ (o_sa 1 ha (qU (t := 107) (x := 4) (y := 44)) hS fun w a hS ha => ?_)
 refine jY (jJ (wp_ret (qK ha (by kernel_rfl) (xZ (t := 4) (ty := 107) (i := 1) ha rfl hS rfl (by kernel_rfl)) ?_)))
 have hE : SX.panR ⟨c, p, b⟩ ef ev = (SX.putAt ⟨c, (p ++ [(ef, ev, 0)]), (b ++ [(-1)])⟩ 1 ((s12.n : Int) - 1)) := by unfold SX.panR; rw [show ((s12.n : Int) - 1) = (p.length : Int) by omega]
 rw [hE]
 exact ⟨V1, rfl, hS.pickN 3 [0]⟩
theorem code81 : Try.f81.body = some (Code.seq (cr Try.f81 0 false) (Code.seq (cr Try.f81 1 false) (Code.seq (cr Try.f81 2 false) (Code.seq (cr Try.f81 3 false) (Code.seq (cr Try.f81 4 false) (Code.seq (cr Try.f81 5 false) (Code.seq (cr Try.f81 6 false) (Code.seq (cr Try.f81 7 false) (Code.seq (cr Try.f81 8 false) Code.ret))))))))) := by kernel_rfl
theorem l4Recover_sat {w0 w : World} {Rs : List Asn} {V : RV} {c : List (Bool × Int)} {p : List (Int × Int × Int)} {b : List Int} {n : Nat} {x : Bool × Int} {ek ef ev : Int} (hS : Sat w0 w (rdA V n ⟨c, p, b⟩ :: Rs)) (hn : n ≤ 2000) (h1 : 2 ≤ c.length) (hx : c[c.length - 2]? = some x) (ho : 0 ≤ x.2 ∧ x.2 < (p.length : Int)) :
  Calls Try.prog 81 #[.agg #[.slice V.ca.A V.ca.n V.ca.c, .slice V.pa.A V.pa.n V.pa.c, .slice V.de.A V.de.n V.de.c, .slice V.un.A V.un.n V.un.c, .slice V.re.A V.re.n V.re.c, .slice V.rp.A V.rp.n V.rp.c, .slice V.be.A V.be.n V.be.c], .agg #[iv ek, iv ef, iv ev]] w (Ret fun r w' => ∃ V' : RV, r = .agg #[.slice V'.ca.A V'.ca.n V'.ca.c, .slice V'.pa.A V'.pa.n V'.pa.c, .slice V'.de.A V'.de.n V'.de.c, .slice V'.un.A V'.un.n V'.un.c, .slice V'.re.A V'.re.n V'.re.c, .slice V'.rp.A V'.rp.n V'.rp.c, .slice V'.be.A V'.be.n V'.be.c] ∧ Sat w0 w' (rdA V' (n + 1) (SX.recR ⟨c, p, b⟩) :: Rs)) := by
 obtain ⟨X, hX, hS⟩ := openRd hS
 replace hS : Sat w0 w ((RwB V.ca c) :: (RwE V.pa p) :: (RwJ V.de X.dep) :: (RwU V.un X.uw) :: (jW (X.uw.map unwN)) :: (RwR V.re X.rcs) :: (RwJ V.rp X.rep) :: (RwJ V.be b) :: Rs) := hS
 have hX1 := hX.kc
 have hX2 := hX.kp
 have hX3 := hX.kd
 have hX4 := hX.ku
 have hX5 := hX.kr
 have hX6 := hX.krp
 have hX7 := hX.kb
 have hnca : V.ca.n = _ := hS.rowL (s := V.ca) (enc := cellsB) 0 cellsB_len (by decide) rfl
 have hnpa : V.pa.n = _ := hS.rowL (s := V.pa) (enc := cellsE) 1 zU (by decide) rfl
 have hnde : V.de.n = _ := hS.rowL (s := V.de) (enc := cellsJ) 2 cellsJ_len (by decide) rfl
 have hnun : V.un.n = _ := hS.rowL (s := V.un) (enc := cellsU) 3 cellsU_len (by decide) rfl
 have hnre : V.re.n = _ := hS.rowL (s := V.re) (enc := cellsR) 5 yG (by decide) rfl
 have hnrp : V.rp.n = _ := hS.rowL (s := V.rp) (enc := cellsJ) 6 cellsJ_len (by decide) rfl
 have hnbe : V.be.n = _ := hS.rowL (s := V.be) (enc := cellsJ) 7 cellsJ_len (by decide) rfl
 refine enter (n := 42) Try.func81 code81 (by kernel_rfl) (Nat.le_of_ble_eq_true rfl) (fun a ha => ?_)
 replace ha : Has 42 [(0, .agg #[.slice V.ca.A V.ca.n V.ca.c, .slice V.pa.A V.pa.n V.pa.c, .slice V.de.A V.de.n V.de.c, .slice V.un.A V.un.n V.un.c, .slice V.re.A V.re.n V.re.c, .slice V.rp.A V.rp.n V.rp.c, .slice V.be.A V.be.n V.be.c]), (1, .agg #[iv ek, iv ef, iv ev])] a := ha
 refine wp_seq (jX [0, 1, 2] (jZ (qJ 2 [.slice V.ca.A V.ca.n V.ca.c, .slice V.pa.A V.pa.n V.pa.c, .slice V.de.A V.de.n V.de.c, .slice V.un.A V.un.n V.un.c, .slice V.re.A V.re.n V.re.c, .slice V.rp.A V.rp.n V.rp.c, .slice V.be.A V.be.n V.be.c] 107 (ptr · 0) ha hS fun b1 w a hb2 hS ha => ?_)))
 refine jZ (qJ 3 [iv ek, iv ef, iv ev] 57 (ptr · 0) ha hS fun b3 w a hb4 hS ha => ?_)
 refine jZ (qJ 4 [.slice none 0 0, .slice none 0 0, .slice none 0 0, .slice none 0 0, .slice none 0 0, .slice none 0 0, .slice none 0 0] 107 (ptr · 0) ha hS fun b5 w a hb6 hS ha => ?_)
 refine jY (jJ (wp_seq (jX [0, 1, 2, 3] (jQ [(0, 8, ptr b1 0)] ha fun a ha => ?_))))
 refine jU (d := 9) (b := b1) (j := 0) ha (hS.blk 2 rfl) rfl fun a ha => ?_
 refine jQ [(2, 10, iv (V.ca.n : Int)), (3, 5, iv (V.ca.n : Int))] ha fun a ha => ?_
 refine jY (jJ (wp_seq (jX [0, 1, 2, 3, 4, 5, 6, 7] (jQ [(0, 11, ptr b1 0)] ha fun a ha => ?_))))
 refine jU (d := 12) (b := b1) (j := 0) ha (hS.blk 2 rfl) rfl fun a ha => ?_
 refine jQ [(2, 13, iv (V.ca.n : Int))] ha fun a ha => ?_
 refine zJ 14 ((V.ca.n : Int) - 2) ha fun a ha => ?_
 refine xU (.pointer (some ⟨bk V.ca, (c.length - 2) * 2, none⟩)) ha (xW (s := V.ca) (el := 149) (sz := 2) (j := (c.length - 2)) ha (yU (t := 103) (x := 12) (y := 14) (d := 15)) rfl rfl (by kernel_rfl) (by kernel_rfl) (hS.rowA (s := V.ca) 3 rfl (by have := (List.getElem?_eq_some_iff.1 hx).1; rw [encB_length]; omega)) ((by omega)) (by have h9 := hS.rowL (s := V.ca) (enc := cellsB) 3 cellsB_len (by decide) rfl; have := (List.getElem?_eq_some_iff.1 hx).1; omega)) fun a ha => ?_
 refine jQ [(5, 16, .pointer (some ⟨bk V.ca, (c.length - 2) * 2 + 1, none⟩))] ha fun a ha => ?_
 refine xU (iv x.2) ha (zK ha (zV (t := 3) (x := 16) (d := 17) (ty := 3)) rfl (by kernel_rfl) (fun w' hw => by rw [hw]; exact (hS.rdC (s := V.ca) 3 rfl).cells _ _ ((flat_get (enc := cellsB) (o := 1) cellsB_len hx (by decide)).trans rfl))) fun a ha => ?_
 refine jQ [(7, 6, iv x.2)] ha fun a ha => ?_
 refine jY (jJ (wp_seq (jX [0, 1, 2, 3] (xG 18 ha (hS.blk 2 rfl) fun a ha => ?_))))
 refine jQ [(1, 19, iv x.2)] ha fun a ha => ?_
 replace hS := hS.pickN 11 [3, 4, 5, 6, 7, 8, 9, 10, 0, 1, 2]
 replace hS : Sat w0 w ((rdA ⟨V.ca, V.pa, V.de, V.un, V.re, V.rp, V.be⟩ n ⟨c, p, b⟩) :: (RB0 b5) :: (SX.blk b3 [iv ek, iv ef, iv ev] 57) :: (RB b1 V.ca V.pa V.de V.un V.re V.rp V.be) :: Rs) := shutRd (V := ⟨V.ca, V.pa, V.de, V.un, V.re, V.rp, V.be⟩) ⟨X.dep, X.uw, X.rcs, X.rep⟩ (by refine ⟨?_, ?_, ?_, ?_, ?_, ?_, ?_, hX.kul⟩ <;> (try simp only [List.length_set, List.length_modify, List.length_append, List.length_take, List.length_cons, List.length_nil]) <;> omega) hS
 refine jZ (qG 20 (vs := [.agg #[.slice V.ca.A V.ca.n V.ca.c, .slice V.pa.A V.pa.n V.pa.c, .slice V.de.A V.de.n V.de.c, .slice V.un.A V.un.n V.un.c, .slice V.re.A V.re.n V.re.c, .slice V.rp.A V.rp.n V.rp.c, .slice V.be.A V.be.n V.be.c], iv x.2, iv 1]) ha (l4Fate_sat (V := (⟨V.ca, V.pa, V.de, V.un, V.re, V.rp, V.be⟩ : RV)) (n := n) (c := c) (p := p) (b := b) (k := x.2) (fate := 1) hS (by omega) ho) fun v7 w a hp8 ha => ?_)
 obtain ⟨V1, rfl, hS⟩ := hp8
 obtain ⟨Xx1, hXx1, hS⟩ := openRd (c := c) (p := (p.modify x.2.toNat fun z => (z.1, z.2.1, 1))) (b := b) hS
 obtain ⟨hnca, hnpa, hnde, hnun, hnre, hnrp, hnbe⟩ := rd_ns (V := V1) (c := c) (p := (p.modify x.2.toNat fun z => (z.1, z.2.1, 1))) (b := b) (X := Xx1) hS
 replace hS : Sat w0 w ((RwB V1.ca c) :: (RwE V1.pa (p.modify x.2.toNat fun z => (z.1, z.2.1, 1))) :: (RwJ V1.de Xx1.dep) :: (RwU V1.un Xx1.uw) :: (jW (Xx1.uw.map unwN)) :: (RwR V1.re Xx1.rcs) :: (RwJ V1.rp Xx1.rep) :: (RwJ V1.be b) :: (RB0 b5) :: (SX.blk b3 [iv ek, iv ef, iv ev] 57) :: (RB b1 V.ca V.pa V.de V.un V.re V.rp V.be) :: Rs) := hS
 obtain ⟨hX1, hX2, hX3, hX4, hX5, hX6, hX7, _⟩ := id hXx1
 try simp only [List.length_set, List.length_modify] at hnca hnpa hnde hnun hnre hnrp hnbe hX1 hX2 hX3 hX4 hX5 hX6 hX7
 refine jZ (o_sa 10 ha (qU (t := 107) (x := 2) (y := 20)) hS fun w a hS ha => ?_)
 refine jY (jJ (wp_seq (jX [0, 1, 2, 3, 4, 5, 6, 7, 8, 9] (jQ [(0, 21, ptr b1 4)] ha fun a ha => ?_))))
 refine jU (d := 22) (b := b1) (j := 4) ha (hS.blk 10 rfl) rfl fun a ha => ?_
 refine jQ [(2, 23, iv x.2), (3, 24, ptr b3 1)] ha fun a ha => ?_
 refine jU (d := 25) (b := b3) (j := 1) ha (hS.blk 9 rfl) rfl fun a ha => ?_
 refine jQ [(5, 26, .agg #[iv x.2, iv ef])] ha fun a ha => ?_
 refine jZ (qJ 27 [iv x.2, iv ef] 61 (fun b => .slice (some ⟨b, 0, none⟩) 1 1) ha hS fun b9 w a hb10 hS ha => ?_)
 refine jZ (o_ap 28 6 0 (encR (Xx1.rcs ++ [(x.2, ef)])) ha hS rfl rfl (by rw [encR_length]; simp only [List.length_cons, List.length_nil, List.length_set, List.length_modify, List.length_append, List.length_take]; omega) (encR_snoc _ _ _) fun s14 w a hS hn15 ha => ?_)
 have hl_s14 : s14.n = _ := hS.rowL (s := s14) (enc := cellsR) 6 yG (by decide) rfl
 simp only [List.length_append, List.length_cons, List.length_nil] at hl_s14
 refine jQ [(8, 29, ptr b1 4)] ha fun a ha => ?_
 refine jZ (qH b1 4 (.slice s14.A s14.n s14.c) 11 ha hS rfl rfl fun w a hS ha => ?_)
 refine jY ?_
 replace ha := ha.as [(2, ptr b1 0), (4, ptr b5 0), (5, iv (V.ca.n : Int))] rfl
 refine jJ (wp_seq (jX [0, 1, 2, 3, 4] (jZ (qJ 30 [] 149 (fun b => .slice (some ⟨b, 0, none⟩) 0 0) ha hS fun b16 w a hb17 hS ha => ?_))))
 refine jQ [(1, 31, ptr b1 0)] ha fun a ha => ?_
 refine jU (d := 32) (b := b1) (j := 0) ha (hS.blk 12 rfl) rfl fun a ha => ?_
 refine jZ (o_appRow0 (m := V1.ca.n) (z := .agg #[.bool false, iv 0]) (sz := 2) (bytes := 16) (ys' := encB c) 0 2 ha (by decide) (zW (op := (Op.call { callee := (Callee.builtin Builtin.append), args := #[(Operand.tmp 30), (Operand.tmp 32)], argTypes := #[103, 103] })) (d := some 33) (ty := 103)) rfl rfl (by kernel_rfl) (by kernel_rfl) rfl (by decide) hS rfl rfl (Nat.le_refl _) (flat_one (fun _ => rfl) _) (by rw [encB_length]; (try simp only [List.length_take, List.length_set, List.length_modify]); omega) (by decide) (flat_all cellsB_len (hS.rowL (s := V1.ca) (enc := cellsB) 2 cellsB_len (by decide) rfl)) fun s18 w a hS hn19 ha => ?_)
 refine jQ [(4, 7, .slice s18.A s18.n s18.c)] ha fun a ha => ?_
 refine jY (jJ (wp_seq ?_))
 have hz := hS.rowL (s := s18) (enc := cellsB) 0 cellsB_len (by decide) rfl
 refine jX [0, 1, 2, 3, 4, 5] (jQ [(0, 34, .slice s18.A s18.n s18.c), (1, 35, iv (V.ca.n : Int))] ha fun a ha => ?_)
 refine zJ 36 ((V.ca.n : Int) - 2) ha fun a ha => ?_
 refine xU (.pointer (some ⟨bk s18, (c.length - 2) * 2, none⟩)) ha (xW (s := s18) (el := 149) (sz := 2) (j := (c.length - 2)) ha (yU (t := 103) (x := 34) (y := 36) (d := 37)) rfl rfl (by kernel_rfl) (by kernel_rfl) (hS.rowA (s := s18) 0 rfl (by have := (List.getElem?_eq_some_iff.1 hx).1; rw [encB_length]; omega)) ((by omega)) (by have h9 := hS.rowL (s := s18) (enc := cellsB) 0 cellsB_len (by decide) rfl; have := (List.getElem?_eq_some_iff.1 hx).1; omega)) fun a ha => ?_
 refine jQ [(4, 38, .pointer (some ⟨bk s18, (c.length - 2) * 2 + 1, none⟩))] ha fun a ha => ?_
 refine jZ (zZ (s := s18) (j := (c.length - 2) * 2 + 1) (xs := encB c) (xs' := encB (c.set (c.length - 2) (x.1, (-1)))) 0 ha (zW (op := (Op.store 3 (Operand.tmp 38) (Operand.const (Value.int IntKind.i64 (-1))))) (ty := 0)) rfl rfl rfl (by kernel_rfl) hS rfl (by have := (List.getElem?_eq_some_iff.1 hx).1; rw [encB_length]; omega) ((flat_set (enc := cellsB) (x' := (x.1, (-1))) cellsB_len hx (by decide) rfl)) (fun w a (hS : Sat w0 w ((RwB s18 (c.set (c.length - 2) (x.1, (-1)))) :: (SX.blk b9 [iv x.2, iv ef] 61) :: (RwB V1.ca c) :: (RwE V1.pa (p.modify x.2.toNat fun z => (z.1, z.2.1, 1))) :: (RwJ V1.de Xx1.dep) :: (RwU V1.un Xx1.uw) :: (jW (Xx1.uw.map unwN)) :: (RwR s14 (Xx1.rcs ++ [(x.2, ef)])) :: (RwJ V1.rp Xx1.rep) :: (RwJ V1.be b) :: (RB0 b5) :: (SX.blk b3 [iv ek, iv ef, iv ev] 57) :: (RB b1 V1.ca V1.pa V1.de V1.un s14 V1.rp V1.be) :: Rs)) ha => ?_))
 refine jY (jJ (wp_seq (jX [0, 1, 2] (jQ [(0, 39, .slice s18.A s18.n s18.c), (1, 40, ptr b1 0)] ha fun a ha => ?_))))
 refine jZ (qH b1 0 (.slice s18.A s18.n s18.c) 12 ha hS rfl rfl fun w a hS ha => ?_)
 refine jY (jJ (wp_seq (jX [0, 1] (xG 41 ha (hS.blk 12 rfl) fun a ha => ?_))))
 refine jZ (o_sa 10 ha (qU (t := 107) (x := 4) (y := 41)) hS fun w a hS ha => ?_)
 refine jY (jJ (wp_ret (qK ha (by kernel_rfl) (xZ (t := 4) (ty := 107) (i := 10) ha rfl hS rfl (by kernel_rfl)) ?_)))
 replace hS := hS.pickN 13 [0, 3, 4, 5, 6, 7, 8, 9]
 replace hS : Sat w0 w ((rdA ⟨s18, V1.pa, V1.de, V1.un, s14, V1.rp, V1.be⟩ (n + 1) ⟨(c.set (c.length - 2) (x.1, (-1))), (p.modify x.2.toNat fun z => (z.1, z.2.1, 1)), b⟩) :: Rs) := shutRd (V := ⟨s18, V1.pa, V1.de, V1.un, s14, V1.rp, V1.be⟩) ⟨Xx1.dep, Xx1.uw, (Xx1.rcs ++ [(x.2, ef)]), Xx1.rep⟩ (by refine ⟨?_, ?_, ?_, ?_, ?_, ?_, ?_, ul_up hXx1.kul⟩ <;> (try simp only [List.length_set, List.length_modify, List.length_append, List.length_take, List.length_cons, List.length_nil]) <;> omega) hS
 have hE : SX.recR ⟨c, p, b⟩ = ⟨(c.set (c.length - 2) (x.1, (-1))), (p.modify x.2.toNat fun z => (z.1, z.2.1, 1)), b⟩ := by unfold SX.recR; rw [callAt_of hx]; exact putAt_of hx
 rw [hE]
 exact ⟨⟨s18, V1.pa, V1.de, V1.un, s14, V1.rp, V1.be⟩, rfl, hS.pickN 1 [0]⟩
theorem code83 : Try.f83.body = some (Code.seq (cr Try.f83 0 false) (Code.seq (cr Try.f83 1 false) (Code.seq (cr Try.f83 2 false) (Code.seq (Code.seq (cr Try.f83 3 false) (Code.cond (Operand.tmp 24) (Code.seq (cr Try.f83 4 false) Code.ret) Code.skip)) (Code.seq (Code.seq (cr Try.f83 5 false) (Code.seq (cr Try.f83 6 false) (Code.cond (Operand.tmp 40) (cr Try.f83 7 false) Code.skip))) (Code.seq (cr Try.f83 8 false) Code.ret)))))) := by kernel_rfl
theorem l4Exit_sat {w0 w : World} {Rs : List Asn} {V : RV} {c : List (Bool × Int)} {p : List (Int × Int × Int)} {b : List Int} {n : Nat} {x : Bool × Int} (hS : Sat w0 w (rdA V n ⟨c, p, b⟩ :: Rs)) (hn : n ≤ 2000) (h1 : 1 ≤ c.length) (hx : c[c.length - 1]? = some x) (hyp : ∀ y, (c.take (c.length - 1))[(c.take (c.length - 1)).length - 1]? = some y → 2 ≤ c.length → y.2 < (p.length : Int)) :
  Calls Try.prog 83 #[.agg #[.slice V.ca.A V.ca.n V.ca.c, .slice V.pa.A V.pa.n V.pa.c, .slice V.de.A V.de.n V.de.c, .slice V.un.A V.un.n V.un.c, .slice V.re.A V.re.n V.re.c, .slice V.rp.A V.rp.n V.rp.c, .slice V.be.A V.be.n V.be.c]] w (Ret fun r w' => ∃ V' : RV, r = .agg #[.slice V'.ca.A V'.ca.n V'.ca.c, .slice V'.pa.A V'.pa.n V'.pa.c, .slice V'.de.A V'.de.n V'.de.c, .slice V'.un.A V'.un.n V'.un.c, .slice V'.re.A V'.re.n V'.re.c, .slice V'.rp.A V'.rp.n V'.rp.c, .slice V'.be.A V'.be.n V'.be.c] ∧ Sat w0 w' (rdA V' n (SX.exR ⟨c, p, b⟩) :: Rs)) := by
 obtain ⟨X, hX, hS⟩ := openRd hS
 replace hS : Sat w0 w ((RwB V.ca c) :: (RwE V.pa p) :: (RwJ V.de X.dep) :: (RwU V.un X.uw) :: (jW (X.uw.map unwN)) :: (RwR V.re X.rcs) :: (RwJ V.rp X.rep) :: (RwJ V.be b) :: Rs) := hS
 have hX1 := hX.kc
 have hX2 := hX.kp
 have hX3 := hX.kd
 have hX4 := hX.ku
 have hX5 := hX.kr
 have hX6 := hX.krp
 have hX7 := hX.kb
 have hnca : V.ca.n = _ := hS.rowL (s := V.ca) (enc := cellsB) 0 cellsB_len (by decide) rfl
 have hnpa : V.pa.n = _ := hS.rowL (s := V.pa) (enc := cellsE) 1 zU (by decide) rfl
 have hnde : V.de.n = _ := hS.rowL (s := V.de) (enc := cellsJ) 2 cellsJ_len (by decide) rfl
 have hnun : V.un.n = _ := hS.rowL (s := V.un) (enc := cellsU) 3 cellsU_len (by decide) rfl
 have hnre : V.re.n = _ := hS.rowL (s := V.re) (enc := cellsR) 5 yG (by decide) rfl
 have hnrp : V.rp.n = _ := hS.rowL (s := V.rp) (enc := cellsJ) 6 cellsJ_len (by decide) rfl
 have hnbe : V.be.n = _ := hS.rowL (s := V.be) (enc := cellsJ) 7 cellsJ_len (by decide) rfl
 refine enter (n := 46) Try.func83 code83 (by kernel_rfl) (Nat.le_of_ble_eq_true rfl) (fun a ha => ?_)
 replace ha : Has 46 [(0, .agg #[.slice V.ca.A V.ca.n V.ca.c, .slice V.pa.A V.pa.n V.pa.c, .slice V.de.A V.de.n V.de.c, .slice V.un.A V.un.n V.un.c, .slice V.re.A V.re.n V.re.c, .slice V.rp.A V.rp.n V.rp.c, .slice V.be.A V.be.n V.be.c])] a := ha
 refine wp_seq (jX [0, 1] (jZ (qJ 1 [.slice V.ca.A V.ca.n V.ca.c, .slice V.pa.A V.pa.n V.pa.c, .slice V.de.A V.de.n V.de.c, .slice V.un.A V.un.n V.un.c, .slice V.re.A V.re.n V.re.c, .slice V.rp.A V.rp.n V.rp.c, .slice V.be.A V.be.n V.be.c] 107 (ptr · 0) ha hS fun b1 w a hb2 hS ha => ?_)))
 refine jZ (qJ 2 [.slice none 0 0, .slice none 0 0, .slice none 0 0, .slice none 0 0, .slice none 0 0, .slice none 0 0, .slice none 0 0] 107 (ptr · 0) ha hS fun b3 w a hb4 hS ha => ?_)
 refine jY (jJ (wp_seq (jX [0, 1, 2, 3, 4, 5, 6, 7, 8, 9] (jQ [(0, 5, ptr b1 0)] ha fun a ha => ?_))))
 refine jU (d := 6) (b := b1) (j := 0) ha (hS.blk 1 rfl) rfl fun a ha => ?_
 refine jQ [(2, 7, ptr b1 0)] ha fun a ha => ?_
 refine jU (d := 8) (b := b1) (j := 0) ha (hS.blk 1 rfl) rfl fun a ha => ?_
 refine jQ [(4, 9, iv (V.ca.n : Int))] ha fun a ha => ?_
 refine zJ 10 ((V.ca.n : Int) - 1) ha fun a ha => ?_
 refine xU (.pointer (some ⟨bk V.ca, (c.length - 1) * 2, none⟩)) ha (xW (s := V.ca) (el := 149) (sz := 2) (j := (c.length - 1)) ha (yU (t := 103) (x := 6) (y := 10) (d := 11)) rfl rfl (by kernel_rfl) (by kernel_rfl) (hS.rowA (s := V.ca) 2 rfl (by have := (List.getElem?_eq_some_iff.1 hx).1; rw [encB_length]; omega)) ((by omega)) (by have h9 := hS.rowL (s := V.ca) (enc := cellsB) 2 cellsB_len (by decide) rfl; have := (List.getElem?_eq_some_iff.1 hx).1; omega)) fun a ha => ?_
 refine xU (.agg #[.bool x.1, iv x.2]) ha (v_loadL ha (zV (t := 149) (x := 11) (d := 12) (ty := 149)) rfl (fun w' hw => by rw [hw]; exact run_loadVar_agg (vs := [.bool x.1, iv x.2]) (by kernel_rfl) (fun i u hu => by match i, hu with | 0, hu => rw [add0]; rw [← Option.some.inj hu]; exact ((hS.rdC (s := V.ca) 2 rfl).cells _ _ ((flat_get (enc := cellsB) (o := 0) cellsB_len hx (by decide)).trans rfl)) | 1, hu => rw [add0]; rw [← Option.some.inj hu]; exact ((hS.rdC (s := V.ca) 2 rfl).cells _ _ ((flat_get (enc := cellsB) (o := 1) cellsB_len hx (by decide)).trans rfl)) | n + 2, hu => simp at hu))) fun a ha => ?_
 refine jZ (qJ 3 [.bool false, iv 0] 149 (ptr · 0) ha hS fun b5 w a hb6 hS ha => ?_)
 refine jZ (o_sa 0 ha (qU (t := 149) (x := 3) (y := 12)) hS fun w a hS ha => ?_)
 refine jY (jJ (wp_seq (jX [0, 1, 2, 3, 4, 5, 6, 7, 8] (jQ [(0, 13, ptr b1 0)] ha fun a ha => ?_))))
 refine jU (d := 14) (b := b1) (j := 0) ha (hS.blk 2 rfl) rfl fun a ha => ?_
 refine jQ [(2, 15, ptr b1 0)] ha fun a ha => ?_
 refine jU (d := 16) (b := b1) (j := 0) ha (hS.blk 2 rfl) rfl fun a ha => ?_
 refine jQ [(4, 17, iv (V.ca.n : Int))] ha fun a ha => ?_
 refine zJ 18 ((V.ca.n : Int) - 1) ha fun a ha => ?_
 refine xU (.slice V.ca.A (V.ca.n - 1) V.ca.c) ha (v_takeZ (el := 149) (j := V.ca.n - 1) ha (zW (op := (Op.slice 103 (Operand.tmp 14) none (some (Operand.tmp 18)) none)) (d := some 19) (ty := 103)) rfl rfl (by kernel_rfl) (by kernel_rfl) (by omega) (Nat.sub_le _ _) (row_cap hS 3 rfl)) fun a ha => ?_
 refine jQ [(7, 20, ptr b1 0)] ha fun a ha => ?_
 refine jZ (qH b1 0 (.slice V.ca.A (V.ca.n - 1) V.ca.c) 2 ha hS rfl rfl fun w a hS ha => ?_)
 refine jY (jJ (wp_seq (wp_seq ?_)))
 replace hS : Sat w0 w ((SX.blk b5 [.bool x.1, iv x.2] 149) :: (RB0 b3) :: (SX.blk b1 [.slice V.ca.A (V.ca.n - 1) V.ca.c, .slice V.pa.A V.pa.n V.pa.c, .slice V.de.A V.de.n V.de.c, .slice V.un.A V.un.n V.un.c, .slice V.re.A V.re.n V.re.c, .slice V.rp.A V.rp.n V.rp.c, .slice V.be.A V.be.n V.be.c] 107) :: (SX.row (.slice V.ca.A (V.ca.n - 1) V.ca.c) 149 2 (encB (c.take (c.length - 1)))) :: (RwE V.pa p) :: (RwJ V.de X.dep) :: (RwU V.un X.uw) :: (jW (X.uw.map unwN)) :: (RwR V.re X.rcs) :: (RwJ V.rp X.rep) :: (RwJ V.be b) :: Rs) := by have hh := Sat.rowTake hS 3 rfl (V.ca.n - 1) (Nat.sub_le _ _); rw [show (encB c).take ((V.ca.n - 1) * 2) = encB (c.take (c.length - 1)) by rw [show V.ca.n - 1 = c.length - 1 by omega]; exact flat_take cellsB_len _ _] at hh; exact hh
 obtain ⟨s_1, hs_1⟩ : ∃ z : Sl, z = ⟨V.ca.A, (V.ca.n - 1), V.ca.c⟩ := ⟨_, rfl⟩
 replace hS : Sat w0 w ((SX.blk b5 [.bool x.1, iv x.2] 149) :: (RB0 b3) :: (RB b1 s_1 V.pa V.de V.un V.re V.rp V.be) :: (RwB s_1 (c.take (c.length - 1))) :: (RwE V.pa p) :: (RwJ V.de X.dep) :: (RwU V.un X.uw) :: (jW (X.uw.map unwN)) :: (RwR V.re X.rcs) :: (RwJ V.rp X.rep) :: (RwJ V.be b) :: Rs) := by rw [hs_1]; exact hS
 have hzn : s_1.n = c.length - 1 := by rw [hs_1]; dsimp only; omega
 refine jX [0, 1, 2, 3] (jQ [(0, 21, ptr b1 0)] ha fun a ha => ?_)
 refine jU (d := 22) (b := b1) (j := 0) ha (hS.blk 2 rfl) rfl fun a ha => ?_
 refine jQ [(2, 23, iv (s_1.n : Int)), (3, 24, .bool (decide ((s_1.n : Int) = 0)))] ha fun a ha => ?_
 refine jY (jJ ?_)
 by_cases c7 : (s_1.n : Int) = 0
 ·
  refine jG ha rfl (decide_eq_true c7) ?_
  refine wp_seq (jX [0, 1] (xG 25 ha (hS.blk 2 rfl) fun a ha => ?_))
  refine jZ (o_sa 1 ha (qU (t := 107) (x := 2) (y := 25)) hS fun w a hS ha => ?_)
  refine jY ?_
  replace ha := ha.as [(1, ptr b1 0), (2, ptr b3 0), (3, ptr b5 0)] rfl
  refine jJ (wp_ret (xQ (qK ha (by kernel_rfl) (xZ (t := 2) (ty := 107) (i := 1) ha rfl hS rfl (by kernel_rfl)) ?_)))
  have hP : SX.popR ⟨c, p, b⟩ = ⟨c.take (c.length - 1), p, b⟩ := rfl
  replace hS := hS.pickN 11 [3, 4, 5, 6, 7, 8, 9, 10]
  replace hS : Sat w0 w ((rdA ⟨s_1, V.pa, V.de, V.un, V.re, V.rp, V.be⟩ n ⟨(c.take (c.length - 1)), p, b⟩) :: Rs) := shutRd (V := ⟨s_1, V.pa, V.de, V.un, V.re, V.rp, V.be⟩) ⟨X.dep, X.uw, X.rcs, X.rep⟩ (by refine ⟨?_, ?_, ?_, ?_, ?_, ?_, ?_, hX.kul⟩ <;> (try simp only [List.length_set, List.length_modify, List.length_append, List.length_take, List.length_cons, List.length_nil]) <;> omega) hS
  have hE : SX.exR ⟨c, p, b⟩ = ⟨(c.take (c.length - 1)), p, b⟩ := by rw [SX.exR, if_pos (by rw [hP]; dsimp only; rw [List.length_take]; omega)]; try rfl
  rw [hE]
  exact ⟨⟨s_1, V.pa, V.de, V.un, V.re, V.rp, V.be⟩, rfl, hS.pickN 1 [0]⟩
 refine jV ha rfl (decide_eq_false c7) ?_
 refine wp_skip (jJ (wp_seq (wp_seq ?_)))
 obtain ⟨y, hy⟩ : ∃ y, (c.take (c.length - 1))[(c.take (c.length - 1)).length - 1]? = some y := ⟨_, List.getElem?_eq_getElem (by rw [List.length_take]; omega)⟩
 have hyb := hyp y hy (by omega)
 refine jX [0, 1, 2, 3, 4, 5, 6, 7, 8, 9] (jQ [(0, 26, ptr b1 0)] ha fun a ha => ?_)
 refine jU (d := 27) (b := b1) (j := 0) ha (hS.blk 2 rfl) rfl fun a ha => ?_
 refine jQ [(2, 28, ptr b1 0)] ha fun a ha => ?_
 refine jU (d := 29) (b := b1) (j := 0) ha (hS.blk 2 rfl) rfl fun a ha => ?_
 refine jQ [(4, 30, iv (s_1.n : Int))] ha fun a ha => ?_
 refine zJ 31 ((s_1.n : Int) - 1) ha fun a ha => ?_
 refine xU (.pointer (some ⟨bk s_1, ((c.take (c.length - 1)).length - 1) * 2, none⟩)) ha (xW (s := s_1) (el := 149) (sz := 2) (j := ((c.take (c.length - 1)).length - 1)) ha (yU (t := 103) (x := 27) (y := 31) (d := 32)) rfl rfl (by kernel_rfl) (by kernel_rfl) (hS.rowA (s := s_1) 3 rfl (by have := (List.getElem?_eq_some_iff.1 hy).1; rw [encB_length]; omega)) ((by rw [List.length_take]; omega)) (by have h9 := hS.rowL (s := s_1) (enc := cellsB) 3 cellsB_len (by decide) rfl; have := (List.getElem?_eq_some_iff.1 hy).1; omega)) fun a ha => ?_
 refine jQ [(7, 33, .pointer (some ⟨bk s_1, ((c.take (c.length - 1)).length - 1) * 2 + 1, none⟩))] ha fun a ha => ?_
 refine xU (iv y.2) ha (zK ha (zV (t := 3) (x := 33) (d := 34) (ty := 3)) rfl (by kernel_rfl) (fun w' hw => by rw [hw]; exact (hS.rdC (s := s_1) 3 rfl).cells _ _ ((flat_get (enc := cellsB) (o := 1) cellsB_len hy (by decide)).trans rfl))) fun a ha => ?_
 refine jQ [(9, 4, iv y.2)] ha fun a ha => ?_
 refine jY ?_
 replace ha := ha.as [(1, ptr b1 0), (2, ptr b3 0), (3, ptr b5 0), (4, iv y.2)] rfl
 refine jJ (wp_seq (jX [0, 1, 2, 3, 4, 5] (jQ [(0, 35, ptr b5 0)] ha fun a ha => ?_)))
 refine jU (d := 36) (b := b5) (j := 0) ha (hS.blk 0 rfl) rfl fun a ha => ?_
 refine jQ [(2, 37, .bool x.1)] ha fun a ha => ?_
 rcases Bool.eq_false_or_eq_true x.1 with c8 | c8
 ·
  replace ha := ha.turn 36 (.bool true) rfl (congrArg Value.bool c8)
  replace ha := ha.turn 37 (.bool true) rfl (congrArg Value.bool c8)
  refine jQ [(3, 38, iv y.2), (4, 39, .bool (decide (y.2 ≥ 0))), (5, 40, .bool (decide (y.2 ≥ 0)))] ha fun a ha => ?_
  refine jY (jJ ?_)
  by_cases c9 : y.2 ≥ 0
  ·
   refine jG ha rfl (decide_eq_true c9) ?_;refine jX [0, 1, 2, 3] (xG 41 ha (hS.blk 2 rfl) fun a ha => ?_);refine jQ [(1, 42, iv y.2)] ha fun a ha => ?_;replace hS := hS.pickN 11 [3, 4, 5, 6, 7, 8, 9, 10, 1, 2];replace hS : Sat w0 w ((rdA ⟨s_1, V.pa, V.de, V.un, V.re, V.rp, V.be⟩ n ⟨(c.take (c.length - 1)), p, b⟩) :: (RB0 b3) :: (RB b1 s_1 V.pa V.de V.un V.re V.rp V.be) :: Rs) := shutRd (V := ⟨s_1, V.pa, V.de, V.un, V.re, V.rp, V.be⟩) ⟨X.dep, X.uw, X.rcs, X.rep⟩ (by refine ⟨?_, ?_, ?_, ?_, ?_, ?_, ?_, hX.kul⟩ <;> (try simp only [List.length_set, List.length_modify, List.length_append, List.length_take, List.length_cons, List.length_nil]) <;> omega) hS;refine jZ (qG 43 (vs := [.agg #[.slice s_1.A s_1.n s_1.c, .slice V.pa.A V.pa.n V.pa.c, .slice V.de.A V.de.n V.de.c, .slice V.un.A V.un.n V.un.c, .slice V.re.A V.re.n V.re.c, .slice V.rp.A V.rp.n V.rp.c, .slice V.be.A V.be.n V.be.c], iv y.2, iv 4]) ha (l4Fate_sat (V := (⟨s_1, V.pa, V.de, V.un, V.re, V.rp, V.be⟩ : RV)) (n := n) (c := (c.take (c.length - 1))) (p := p) (b := b) (k := y.2) (fate := 4) hS (by omega) ⟨by omega, by omega⟩) fun v10 w a hp11 ha => ?_);obtain ⟨V1, rfl, hS⟩ := hp11;obtain ⟨Xx1, hXx1, hS⟩ := openRd (c := (c.take (c.length - 1))) (p := (p.modify y.2.toNat fun z => (z.1, z.2.1, 4))) (b := b) hS;obtain ⟨hnca, hnpa, hnde, hnun, hnre, hnrp, hnbe⟩ := rd_ns (V := V1) (c := (c.take (c.length - 1))) (p := (p.modify y.2.toNat fun z => (z.1, z.2.1, 4))) (b := b) (X := Xx1) hS;replace hS : Sat w0 w ((RwB V1.ca (c.take (c.length - 1))) :: (RwE V1.pa (p.modify y.2.toNat fun z => (z.1, z.2.1, 4))) :: (RwJ V1.de Xx1.dep) :: (RwU V1.un Xx1.uw) :: (jW (Xx1.uw.map unwN)) :: (RwR V1.re Xx1.rcs) :: (RwJ V1.rp Xx1.rep) :: (RwJ V1.be b) :: (RB0 b3) :: (RB b1 s_1 V.pa V.de V.un V.re V.rp V.be) :: Rs) := hS;obtain ⟨hX1, hX2, hX3, hX4, hX5, hX6, hX7, _⟩ := id hXx1
   try simp only [List.length_set, List.length_modify] at hnca hnpa hnde hnun hnre hnrp hnbe hX1 hX2 hX3 hX4 hX5 hX6 hX7
   refine jZ (o_sa 9 ha (qU (t := 107) (x := 1) (y := 43)) hS fun w a hS ha => ?_);refine jY (jJ (wp_seq (jX [0, 1, 2] (xG 44 ha (hS.blk 9 rfl) fun a ha => ?_))));replace hS : Sat w0 w ((RwB V1.ca (c.take (c.length - 1))) :: (RwE V1.pa (p.modify y.2.toNat fun z => (z.1, z.2.1, 4))) :: (RwJ V1.de Xx1.dep) :: (RwU V1.un Xx1.uw) :: (jW (Xx1.uw.map unwN)) :: (RwR V1.re Xx1.rcs) :: (RwJ V1.rp Xx1.rep) :: (RwJ V1.be b) :: (RB0 b3) :: (RB b1 V1.ca V1.pa V1.de V1.un V1.re V1.rp V1.be) :: Rs) := hS;replace hS : Sat w0 w ((rdA ⟨V1.ca, V1.pa, V1.de, V1.un, V1.re, V1.rp, V1.be⟩ n ⟨(c.take (c.length - 1)), (p.modify y.2.toNat fun z => (z.1, z.2.1, 4)), b⟩) :: (RB0 b3) :: (RB b1 V1.ca V1.pa V1.de V1.un V1.re V1.rp V1.be) :: Rs) := shutRd (V := ⟨V1.ca, V1.pa, V1.de, V1.un, V1.re, V1.rp, V1.be⟩) ⟨Xx1.dep, Xx1.uw, Xx1.rcs, Xx1.rep⟩ (by refine ⟨?_, ?_, ?_, ?_, ?_, ?_, ?_, hXx1.kul⟩ <;> (try simp only [List.length_set, List.length_modify, List.length_append, List.length_take, List.length_cons, List.length_nil]) <;> omega) hS;refine jZ (qG 45 (vs := [.agg #[.slice V1.ca.A V1.ca.n V1.ca.c, .slice V1.pa.A V1.pa.n V1.pa.c, .slice V1.de.A V1.de.n V1.de.c, .slice V1.un.A V1.un.n V1.un.c, .slice V1.re.A V1.re.n V1.re.c, .slice V1.rp.A V1.rp.n V1.rp.c, .slice V1.be.A V1.be.n V1.be.c], iv (-1)]) ha (l4Top_sat (V := (⟨V1.ca, V1.pa, V1.de, V1.un, V1.re, V1.rp, V1.be⟩ : RV)) (n := n) (c := (c.take (c.length - 1))) (p := (p.modify y.2.toNat fun z => (z.1, z.2.1, 4))) (b := b) (on := (-1)) hS (by omega) (by rw [List.length_take]; omega)) fun v12 w a hp13 ha => ?_);obtain ⟨V2, rfl, hS⟩ := hp13;refine jZ (o_sa 1 ha (qU (t := 107) (x := 2) (y := 45)) hS fun w a hS ha => ?_);refine jY (jJ (wp_ret (qK ha (by kernel_rfl) (xZ (t := 2) (ty := 107) (i := 1) ha rfl hS rfl (by kernel_rfl)) ?_)));have hP : SX.popR ⟨c, p, b⟩ = ⟨c.take (c.length - 1), p, b⟩ := rfl;have hE : SX.exR ⟨c, p, b⟩ = (SX.putAt ⟨(c.take (c.length - 1)), (p.modify y.2.toNat fun z => (z.1, z.2.1, 4)), b⟩ 1 (-1)) := by rw [SX.exR, if_neg (by rw [hP]; dsimp only; rw [List.length_take]; omega), hP, callAt_of hx, callAt_of hy, if_pos ⟨c8, c9⟩]; try rfl
   rw [hE];exact ⟨V2, rfl, hS.pickN 3 [0]⟩
  refine jV ha rfl (decide_eq_false c9) ?_
  refine wp_skip (jJ (wp_seq (jX [0, 1, 2] (xG 44 ha (hS.blk 2 rfl) fun a ha => ?_))))
  replace hS := hS.pickN 11 [3, 4, 5, 6, 7, 8, 9, 10, 1, 2]
  replace hS : Sat w0 w ((rdA ⟨s_1, V.pa, V.de, V.un, V.re, V.rp, V.be⟩ n ⟨(c.take (c.length - 1)), p, b⟩) :: (RB0 b3) :: (RB b1 s_1 V.pa V.de V.un V.re V.rp V.be) :: Rs) := shutRd (V := ⟨s_1, V.pa, V.de, V.un, V.re, V.rp, V.be⟩) ⟨X.dep, X.uw, X.rcs, X.rep⟩ (by refine ⟨?_, ?_, ?_, ?_, ?_, ?_, ?_, hX.kul⟩ <;> (try simp only [List.length_set, List.length_modify, List.length_append, List.length_take, List.length_cons, List.length_nil]) <;> omega) hS
  refine jZ (qG 45 (vs := [.agg #[.slice s_1.A s_1.n s_1.c, .slice V.pa.A V.pa.n V.pa.c, .slice V.de.A V.de.n V.de.c, .slice V.un.A V.un.n V.un.c, .slice V.re.A V.re.n V.re.c, .slice V.rp.A V.rp.n V.rp.c, .slice V.be.A V.be.n V.be.c], iv (-1)]) ha (l4Top_sat (V := (⟨s_1, V.pa, V.de, V.un, V.re, V.rp, V.be⟩ : RV)) (n := n) (c := (c.take (c.length - 1))) (p := p) (b := b) (on := (-1)) hS (by omega) (by rw [List.length_take]; omega)) fun v14 w a hp15 ha => ?_)
  obtain ⟨V3, rfl, hS⟩ := hp15
  refine jZ (o_sa 1 ha (qU (t := 107) (x := 2) (y := 45)) hS fun w a hS ha => ?_)
  refine jY (jJ (wp_ret (qK ha (by kernel_rfl) (xZ (t := 2) (ty := 107) (i := 1) ha rfl hS rfl (by kernel_rfl)) ?_)))
  have hP : SX.popR ⟨c, p, b⟩ = ⟨c.take (c.length - 1), p, b⟩ := rfl
  have hE : SX.exR ⟨c, p, b⟩ = (SX.putAt ⟨(c.take (c.length - 1)), p, b⟩ 1 (-1)) := by rw [SX.exR, if_neg (by rw [hP]; dsimp only; rw [List.length_take]; omega), hP, callAt_of hx, callAt_of hy, if_neg (fun h9 => c9 h9.2)]; try rfl
  rw [hE]
  exact ⟨V3, rfl, hS.pickN 3 [0]⟩
 replace ha := ha.turn 36 (.bool false) rfl (congrArg Value.bool c8)
 replace ha := ha.turn 37 (.bool false) rfl (congrArg Value.bool c8)
 refine jQ [(3, 38, undef), (4, 39, undef), (5, 40, .bool false)] ha fun a ha => ?_
 refine jY (jJ ?_)
 refine jV ha rfl rfl ?_
 refine wp_skip (jJ (wp_seq (jX [0, 1, 2] (xG 44 ha (hS.blk 2 rfl) fun a ha => ?_))))
 replace hS := hS.pickN 11 [3, 4, 5, 6, 7, 8, 9, 10, 1, 2]
 replace hS : Sat w0 w ((rdA ⟨s_1, V.pa, V.de, V.un, V.re, V.rp, V.be⟩ n ⟨(c.take (c.length - 1)), p, b⟩) :: (RB0 b3) :: (RB b1 s_1 V.pa V.de V.un V.re V.rp V.be) :: Rs) := shutRd (V := ⟨s_1, V.pa, V.de, V.un, V.re, V.rp, V.be⟩) ⟨X.dep, X.uw, X.rcs, X.rep⟩ (by refine ⟨?_, ?_, ?_, ?_, ?_, ?_, ?_, hX.kul⟩ <;> (try simp only [List.length_set, List.length_modify, List.length_append, List.length_take, List.length_cons, List.length_nil]) <;> omega) hS
 refine jZ (qG 45 (vs := [.agg #[.slice s_1.A s_1.n s_1.c, .slice V.pa.A V.pa.n V.pa.c, .slice V.de.A V.de.n V.de.c, .slice V.un.A V.un.n V.un.c, .slice V.re.A V.re.n V.re.c, .slice V.rp.A V.rp.n V.rp.c, .slice V.be.A V.be.n V.be.c], iv (-1)]) ha (l4Top_sat (V := (⟨s_1, V.pa, V.de, V.un, V.re, V.rp, V.be⟩ : RV)) (n := n) (c := (c.take (c.length - 1))) (p := p) (b := b) (on := (-1)) hS (by omega) (by rw [List.length_take]; omega)) fun v16 w a hp17 ha => ?_)
 obtain ⟨V4, rfl, hS⟩ := hp17
 refine jZ (o_sa 1 ha (qU (t := 107) (x := 2) (y := 45)) hS fun w a hS ha => ?_)
 refine jY (jJ (wp_ret (qK ha (by kernel_rfl) (xZ (t := 2) (ty := 107) (i := 1) ha rfl hS rfl (by kernel_rfl)) ?_)))
 have hP : SX.popR ⟨c, p, b⟩ = ⟨c.take (c.length - 1), p, b⟩ := rfl
 have hE : SX.exR ⟨c, p, b⟩ = (SX.putAt ⟨(c.take (c.length - 1)), p, b⟩ 1 (-1)) := by rw [SX.exR, if_neg (by rw [hP]; dsimp only; rw [List.length_take]; omega), hP, callAt_of hx, callAt_of hy, if_neg (fun h9 => by rw [c8] at h9; exact absurd h9.1 (by decide))]; try rfl
 rw [hE]
 exact ⟨V4, rfl, hS.pickN 3 [0]⟩
theorem code82 : Try.f82.body = some (Code.seq (cr Try.f82 0 false) (Code.seq (cr Try.f82 1 false) (Code.seq (cr Try.f82 2 false) (Code.seq (cr Try.f82 3 false) (Code.seq (cr Try.f82 4 true) (Code.seq (Code.seq (cr Try.f82 5 false) (Code.cond (Operand.tmp 47) (Code.seq (cr Try.f82 6 false) Code.ret) Code.skip)) (Code.seq (Code.seq (cr Try.f82 7 false) (Code.seq (cr Try.f82 8 false) (Code.cond (Operand.tmp 66) (Code.seq (cr Try.f82 9 false) (Code.seq (cr Try.f82 10 false) (Code.seq (cr Try.f82 11 false) (Code.seq (cr Try.f82 12 false) (cr Try.f82 13 false))))) Code.skip))) (Code.seq (cr Try.f82 14 false) Code.ret)))))))) := by kernel_rfl
theorem l4Unwind_sat {w0 w : World} {Rs : List Asn} {V : RV} {c : List (Bool × Int)} {p : List (Int × Int × Int)} {b : List Int} {n : Nat} {x : Bool × Int} {ek ef ev : Int} (hS : Sat w0 w (rdA V n ⟨c, p, b⟩ :: Rs)) (hn : n ≤ 2000) (h1 : 1 ≤ c.length) (hx : c[c.length - 1]? = some x) (ho : 0 ≤ x.2 ∧ x.2 < (p.length : Int)) (hyp : ∀ y, (c.take (c.length - 1))[(c.take (c.length - 1)).length - 1]? = some y → 2 ≤ c.length → y.2 < (p.length : Int)) :
  Calls Try.prog 82 #[.agg #[.slice V.ca.A V.ca.n V.ca.c, .slice V.pa.A V.pa.n V.pa.c, .slice V.de.A V.de.n V.de.c, .slice V.un.A V.un.n V.un.c, .slice V.re.A V.re.n V.re.c, .slice V.rp.A V.rp.n V.rp.c, .slice V.be.A V.be.n V.be.c], .agg #[iv ek, iv ef, iv ev]] w (Ret fun r w' => ∃ V' : RV, r = .agg #[.slice V'.ca.A V'.ca.n V'.ca.c, .slice V'.pa.A V'.pa.n V'.pa.c, .slice V'.de.A V'.de.n V'.de.c, .slice V'.un.A V'.un.n V'.un.c, .slice V'.re.A V'.re.n V'.re.c, .slice V'.rp.A V'.rp.n V'.rp.c, .slice V'.be.A V'.be.n V'.be.c] ∧ Sat w0 w' (rdA V' (n + 1) (SX.unwR ⟨c, p, b⟩) :: Rs)) := by
 obtain ⟨X, hX, hS⟩ := openRd hS
 replace hS : Sat w0 w ((RwB V.ca c) :: (RwE V.pa p) :: (RwJ V.de X.dep) :: (RwU V.un X.uw) :: (jW (X.uw.map unwN)) :: (RwR V.re X.rcs) :: (RwJ V.rp X.rep) :: (RwJ V.be b) :: Rs) := hS
 have hX1 := hX.kc
 have hX2 := hX.kp
 have hX3 := hX.kd
 have hX4 := hX.ku
 have hX5 := hX.kr
 have hX6 := hX.krp
 have hX7 := hX.kb
 have hnca : V.ca.n = _ := hS.rowL (s := V.ca) (enc := cellsB) 0 cellsB_len (by decide) rfl
 have hnpa : V.pa.n = _ := hS.rowL (s := V.pa) (enc := cellsE) 1 zU (by decide) rfl
 have hnde : V.de.n = _ := hS.rowL (s := V.de) (enc := cellsJ) 2 cellsJ_len (by decide) rfl
 have hnun : V.un.n = _ := hS.rowL (s := V.un) (enc := cellsU) 3 cellsU_len (by decide) rfl
 have hnre : V.re.n = _ := hS.rowL (s := V.re) (enc := cellsR) 5 yG (by decide) rfl
 have hnrp : V.rp.n = _ := hS.rowL (s := V.rp) (enc := cellsJ) 6 cellsJ_len (by decide) rfl
 have hnbe : V.be.n = _ := hS.rowL (s := V.be) (enc := cellsJ) 7 cellsJ_len (by decide) rfl
 refine enter (n := 94) Try.func82 code82 (by kernel_rfl) (Nat.le_of_ble_eq_true rfl) (fun a ha => ?_)
 replace ha : Has 94 [(0, .agg #[.slice V.ca.A V.ca.n V.ca.c, .slice V.pa.A V.pa.n V.pa.c, .slice V.de.A V.de.n V.de.c, .slice V.un.A V.un.n V.un.c, .slice V.re.A V.re.n V.re.c, .slice V.rp.A V.rp.n V.rp.c, .slice V.be.A V.be.n V.be.c]), (1, .agg #[iv ek, iv ef, iv ev])] a := ha
 refine wp_seq (jX [0, 1, 2] (jZ (qJ 2 [.slice V.ca.A V.ca.n V.ca.c, .slice V.pa.A V.pa.n V.pa.c, .slice V.de.A V.de.n V.de.c, .slice V.un.A V.un.n V.un.c, .slice V.re.A V.re.n V.re.c, .slice V.rp.A V.rp.n V.rp.c, .slice V.be.A V.be.n V.be.c] 107 (ptr · 0) ha hS fun b1 w a hb2 hS ha => ?_)))
 refine jZ (qJ 3 [iv ek, iv ef, iv ev] 57 (ptr · 0) ha hS fun b3 w a hb4 hS ha => ?_)
 refine jZ (qJ 4 [.slice none 0 0, .slice none 0 0, .slice none 0 0, .slice none 0 0, .slice none 0 0, .slice none 0 0, .slice none 0 0] 107 (ptr · 0) ha hS fun b5 w a hb6 hS ha => ?_)
 refine jY (jJ (wp_seq (jX [0, 1, 2, 3, 4, 5, 6, 7, 8, 9] (jQ [(0, 7, ptr b1 0)] ha fun a ha => ?_))))
 refine jU (d := 8) (b := b1) (j := 0) ha (hS.blk 2 rfl) rfl fun a ha => ?_
 refine jQ [(2, 9, ptr b1 0)] ha fun a ha => ?_
 refine jU (d := 10) (b := b1) (j := 0) ha (hS.blk 2 rfl) rfl fun a ha => ?_
 refine jQ [(4, 11, iv (V.ca.n : Int))] ha fun a ha => ?_
 refine zJ 12 ((V.ca.n : Int) - 1) ha fun a ha => ?_
 refine xU (.pointer (some ⟨bk V.ca, (c.length - 1) * 2, none⟩)) ha (xW (s := V.ca) (el := 149) (sz := 2) (j := (c.length - 1)) ha (yU (t := 103) (x := 8) (y := 12) (d := 13)) rfl rfl (by kernel_rfl) (by kernel_rfl) (hS.rowA (s := V.ca) 3 rfl (by have := (List.getElem?_eq_some_iff.1 hx).1; rw [encB_length]; omega)) ((by omega)) (by have h9 := hS.rowL (s := V.ca) (enc := cellsB) 3 cellsB_len (by decide) rfl; have := (List.getElem?_eq_some_iff.1 hx).1; omega)) fun a ha => ?_
 refine xU (.agg #[.bool x.1, iv x.2]) ha (v_loadL ha (zV (t := 149) (x := 13) (d := 14) (ty := 149)) rfl (fun w' hw => by rw [hw]; exact run_loadVar_agg (vs := [.bool x.1, iv x.2]) (by kernel_rfl) (fun i u hu => by match i, hu with | 0, hu => rw [add0]; rw [← Option.some.inj hu]; exact ((hS.rdC (s := V.ca) 3 rfl).cells _ _ ((flat_get (enc := cellsB) (o := 0) cellsB_len hx (by decide)).trans rfl)) | 1, hu => rw [add0]; rw [← Option.some.inj hu]; exact ((hS.rdC (s := V.ca) 3 rfl).cells _ _ ((flat_get (enc := cellsB) (o := 1) cellsB_len hx (by decide)).trans rfl)) | n + 2, hu => simp at hu))) fun a ha => ?_
 refine jZ (qJ 5 [.bool false, iv 0] 149 (ptr · 0) ha hS fun b7 w a hb8 hS ha => ?_)
 refine jZ (o_sa 0 ha (qU (t := 149) (x := 5) (y := 14)) hS fun w a hS ha => ?_)
 refine jY (jJ (wp_seq (jX [0, 1, 2, 3, 4, 5, 6, 7, 8] (jQ [(0, 15, ptr b1 0)] ha fun a ha => ?_))))
 refine jU (d := 16) (b := b1) (j := 0) ha (hS.blk 3 rfl) rfl fun a ha => ?_
 refine jQ [(2, 17, ptr b1 0)] ha fun a ha => ?_
 refine jU (d := 18) (b := b1) (j := 0) ha (hS.blk 3 rfl) rfl fun a ha => ?_
 refine jQ [(4, 19, iv (V.ca.n : Int))] ha fun a ha => ?_
 refine zJ 20 ((V.ca.n : Int) - 1) ha fun a ha => ?_
 refine xU (.slice V.ca.A (V.ca.n - 1) V.ca.c) ha (v_takeZ (el := 149) (j := V.ca.n - 1) ha (zW (op := (Op.slice 103 (Operand.tmp 16) none (some (Operand.tmp 20)) none)) (d := some 21) (ty := 103)) rfl rfl (by kernel_rfl) (by kernel_rfl) (by omega) (Nat.sub_le _ _) (row_cap hS 4 rfl)) fun a ha => ?_
 refine jQ [(7, 22, ptr b1 0)] ha fun a ha => ?_
 refine jZ (qH b1 0 (.slice V.ca.A (V.ca.n - 1) V.ca.c) 3 ha hS rfl rfl fun w a hS ha => ?_)
 refine jY (jJ (wp_seq ?_))
 replace hS : Sat w0 w ((SX.blk b7 [.bool x.1, iv x.2] 149) :: (RB0 b5) :: (SX.blk b3 [iv ek, iv ef, iv ev] 57) :: (SX.blk b1 [.slice V.ca.A (V.ca.n - 1) V.ca.c, .slice V.pa.A V.pa.n V.pa.c, .slice V.de.A V.de.n V.de.c, .slice V.un.A V.un.n V.un.c, .slice V.re.A V.re.n V.re.c, .slice V.rp.A V.rp.n V.rp.c, .slice V.be.A V.be.n V.be.c] 107) :: (SX.row (.slice V.ca.A (V.ca.n - 1) V.ca.c) 149 2 (encB (c.take (c.length - 1)))) :: (RwE V.pa p) :: (RwJ V.de X.dep) :: (RwU V.un X.uw) :: (jW (X.uw.map unwN)) :: (RwR V.re X.rcs) :: (RwJ V.rp X.rep) :: (RwJ V.be b) :: Rs) := by have hh := Sat.rowTake hS 4 rfl (V.ca.n - 1) (Nat.sub_le _ _); rw [show (encB c).take ((V.ca.n - 1) * 2) = encB (c.take (c.length - 1)) by rw [show V.ca.n - 1 = c.length - 1 by omega]; exact flat_take cellsB_len _ _] at hh; exact hh
 obtain ⟨s_1, hs_1⟩ : ∃ z : Sl, z = ⟨V.ca.A, (V.ca.n - 1), V.ca.c⟩ := ⟨_, rfl⟩
 replace hS : Sat w0 w ((SX.blk b7 [.bool x.1, iv x.2] 149) :: (RB0 b5) :: (SX.blk b3 [iv ek, iv ef, iv ev] 57) :: (RB b1 s_1 V.pa V.de V.un V.re V.rp V.be) :: (RwB s_1 (c.take (c.length - 1))) :: (RwE V.pa p) :: (RwJ V.de X.dep) :: (RwU V.un X.uw) :: (jW (X.uw.map unwN)) :: (RwR V.re X.rcs) :: (RwJ V.rp X.rep) :: (RwJ V.be b) :: Rs) := by rw [hs_1]; exact hS
 have hzn : s_1.n = c.length - 1 := by rw [hs_1]; dsimp only; omega
 refine jX [0, 1, 2, 3, 4, 5] (jZ (qJ 23 [] 49 (fun b => .slice (some ⟨b, 0, none⟩) 0 0) ha hS fun b9 w a hb10 hS ha => ?_))
 refine jQ [(1, 24, ptr b1 3)] ha fun a ha => ?_
 refine jU (d := 25) (b := b1) (j := 3) ha (hS.blk 4 rfl) rfl fun a ha => ?_
 refine jZ (o_appRow0 (m := V.un.n) (z := .slice none 0 0) (sz := 1) (bytes := 24) (ys' := encU X.uw) 0 8 ha (by decide) (zW (op := (Op.call { callee := (Callee.builtin Builtin.append), args := #[(Operand.tmp 23), (Operand.tmp 25)], argTypes := #[105, 105] })) (d := some 26) (ty := 105)) rfl rfl (by kernel_rfl) (by kernel_rfl) rfl (by decide) hS rfl rfl (Nat.le_refl _) (flat_one (fun _ => rfl) _) (by rw [encU_length]; (try simp only [List.length_take, List.length_set, List.length_modify]); omega) (by decide) (flat_all cellsU_len (hS.rowL (s := V.un) (enc := cellsU) 8 cellsU_len (by decide) rfl)) fun s11 w a hS hn12 ha => ?_)
 refine jQ [(4, 27, ptr b1 3)] ha fun a ha => ?_
 refine jZ (qH b1 3 (.slice s11.A s11.n s11.c) 4 ha hS rfl rfl fun w a hS ha => ?_)
 refine jY ?_
 replace ha := ha.as [(2, ptr b1 0), (3, ptr b3 0), (4, ptr b5 0), (5, ptr b7 0)] rfl
 refine jJ ?_
 have hzu := hS.rowL (s := s11) (enc := cellsU) 0 cellsU_len (by decide) rfl
 obtain ⟨u, hu⟩ : ∃ u, X.uw[x.2.toNat]? = some u := ⟨_, List.getElem?_eq_getElem (by omega)⟩
 replace hS := hS.pickN 13 [9, 0, 1, 2, 3, 4, 5, 6, 7, 8, 10, 11, 12]
 replace hS : Sat w0 w ((RwJ u.1 u.2) :: (jW ((X.uw.eraseIdx x.2.toNat).map unwN)) :: (RwU s11 X.uw) :: (SX.blk b7 [.bool x.1, iv x.2] 149) :: (RB0 b5) :: (SX.blk b3 [iv ek, iv ef, iv ev] 57) :: (RB b1 s_1 V.pa V.de s11 V.re V.rp V.be) :: (RwB s_1 (c.take (c.length - 1))) :: (RwE V.pa p) :: (RwJ V.de X.dep) :: (RwU V.un X.uw) :: (RwR V.re X.rcs) :: (RwJ V.rp X.rep) :: (RwJ V.be b) :: Rs) := Sat.takeAt (g := unwN) hu hS
 have hul := hX.kul u (List.mem_of_getElem? hu)
 refine kG (J := fun a_ w_ => ∃ (g1_0 : Sl) (g1_1 : Nat), Has 94 [(2, ptr b1 0), (4, ptr b5 0), (5, ptr b7 0)] a_ ∧ Sat w0 w_ ((jW ((X.uw.set x.2.toNat ((⟨g1_0.A, g1_0.n, g1_0.c⟩ : Sl), (u.2 ++ [ef]))).map unwN)) :: (RwU s11 (X.uw.set x.2.toNat ((⟨g1_0.A, g1_0.n, g1_0.c⟩ : Sl), (u.2 ++ [ef])))) :: (SX.blk g1_1 [iv ef] 3) :: (RwJ u.1 u.2) :: (SX.blk b7 [.bool x.1, iv x.2] 149) :: (RB0 b5) :: (SX.blk b3 [iv ek, iv ef, iv ev] 57) :: (RB b1 s_1 V.pa V.de s11 V.re V.rp V.be) :: (RwB s_1 (c.take (c.length - 1))) :: (RwE V.pa p) :: (RwJ V.de X.dep) :: (RwU V.un X.uw) :: (RwR V.re X.rcs) :: (RwJ V.rp X.rep) :: (RwJ V.be b) :: Rs)) ?_ ?_
 ·
  refine xY 16 17 (hS.pickN 14 [2, 3, 4, 5, 6]) hS fun w hS => ?_
  refine jK (k := 16) [(0, 28, ptr b1 3)] ha (.inr (hS.pickN 14 [2, 3, 4, 5, 6])) fun a ha => ?_
  refine qW 1 (d := 29) (b := b1) (j := 3) ha (hS.pickN 14 [2, 3, 4, 5, 6]) (fun _ hw => hw.blk 4 rfl) rfl fun a ha => ?_
  refine jK (k := 14) [(2, 30, ptr b7 1)] ha (.inr (hS.pickN 14 [2, 3, 4, 5, 6])) fun a ha => ?_
  refine qW 3 (d := 31) (b := b7) (j := 1) ha (hS.pickN 14 [2, 3, 4, 5, 6]) (fun _ hw => hw.blk 1 rfl) rfl fun a ha => ?_
  refine jK (k := 12) [(4, 32, ptr b1 3)] ha (.inr (hS.pickN 14 [2, 3, 4, 5, 6])) fun a ha => ?_
  refine qW 5 (d := 33) (b := b1) (j := 3) ha (hS.pickN 14 [2, 3, 4, 5, 6]) (fun _ hw => hw.blk 4 rfl) rfl fun a ha => ?_
  refine jK (k := 10) [(6, 34, ptr b7 1)] ha (.inr (hS.pickN 14 [2, 3, 4, 5, 6])) fun a ha => ?_
  refine qW 7 (d := 35) (b := b7) (j := 1) ha (hS.pickN 14 [2, 3, 4, 5, 6]) (fun _ hw => hw.blk 1 rfl) rfl fun a ha => ?_
  refine zQ 8 (.pointer (some ⟨bk s11, x.2.toNat * 1, none⟩)) ha (xW (s := s11) (el := 49) (sz := 1) (j := x.2.toNat) ha (yU (t := 105) (x := 33) (y := 35) (d := 36)) rfl rfl (by kernel_rfl) (by kernel_rfl) (hS.rowA (s := s11) 2 rfl (by have := (List.getElem?_eq_some_iff.1 hu).1; rw [encU_length]; omega)) ((Int.toNat_of_nonneg ho.1).symm) (by have h9 := hS.rowL (s := s11) (enc := cellsU) 2 cellsU_len (by decide) rfl; have := (List.getElem?_eq_some_iff.1 hu).1; omega)) (.inr (hS.pickN 14 [2, 3, 4, 5, 6])) fun a ha => ?_
  refine zH 9 (.slice u.1.A u.1.n u.1.c) ha (zK ha (zV (t := 49) (x := 36) (d := 37) (ty := 49)) rfl (by kernel_rfl) (fun w' hw => ((hw.rdC (s := s11) 0 rfl)).cells _ _ ((flat_get (enc := cellsU) (o := 0) cellsU_len hu (by decide)).trans rfl))) (hS.pickN 14 [2, 3, 4, 5, 6]) fun a ha => ?_
  refine jK (k := 6) [(11, 39, ptr b3 1)] ha (.inr (hS.pickN 14 [2, 3, 4, 5, 6])) fun a ha => ?_
  refine qW 12 (d := 40) (b := b3) (j := 1) ha (hS.pickN 14 [2, 3, 4, 5, 6]) (fun _ hw => hw.blk 3 rfl) rfl fun a ha => ?_
  refine d_all (rs := [10, 13]) (by kernel_rfl) (by simp) (forall_mem_2 ?_ ?_)
  ·
   replace hS : Sat w0 w ((RwJ u.1 u.2) :: (jW ((X.uw.eraseIdx x.2.toNat).map unwN)) :: (RwU s11 X.uw) :: (SX.blk b7 [.bool x.1, iv x.2] 149) :: (RB0 b5) :: (SX.blk b3 [iv ek, iv ef, iv ev] 57) :: (RB b1 s_1 V.pa V.de s11 V.re V.rp V.be) :: (RwB s_1 (c.take (c.length - 1))) :: (RwE V.pa p) :: (RwJ V.de X.dep) :: (RwU V.un X.uw) :: (RwR V.re X.rcs) :: (RwJ V.rp X.rep) :: (RwJ V.be b) :: Rs) := hS;refine id (qG 38 (vs := [.slice u.1.A u.1.n u.1.c]) ha (own4_sat hS (by omega)) fun v13 w a hp14 ha => ?_);obtain ⟨o1, rfl, hS⟩ := hp14;refine ⟨.inr (hS.pickN 15 [3, 4, 5, 6, 7]), ?_⟩;refine jH 13 (qJ 41 [iv ef] 3 (fun b => .slice (some ⟨b, 0, none⟩) 1 1) ha hS fun b15 w a hb16 hS ha => ?_);refine ⟨.inr (hS.pickN 16 [4, 5, 6, 7, 8]), ?_⟩;refine jH 14 (o_ap 42 1 0 (encJ (u.2 ++ [ef])) ha hS rfl rfl (by rw [encJ_length]; simp only [List.length_cons, List.length_nil, List.length_set, List.length_modify, List.length_append, List.length_take]; omega) (encJ_snocE _ _) fun s20 w a hS hn21 ha => ?_);have hl_s20 : s20.n = _ := hS.rowL (s := s20) (enc := cellsJ) 1 cellsJ_len (by decide) rfl;simp only [List.length_append, List.length_cons, List.length_nil] at hl_s20;refine ⟨.inr (hS.pickN 16 [4, 5, 6, 7, 8]), ?_⟩;refine zQ 15 (.pointer (some ⟨bk s11, x.2.toNat * 1, none⟩)) ha (xW (s := s11) (el := 49) (sz := 1) (j := x.2.toNat) ha (yU (t := 105) (x := 29) (y := 31) (d := 43)) rfl rfl (by kernel_rfl) (by kernel_rfl) (hS.rowA (s := s11) 4 rfl (by have := (List.getElem?_eq_some_iff.1 hu).1; rw [encU_length]; omega)) ((Int.toNat_of_nonneg ho.1).symm) (by have h9 := hS.rowL (s := s11) (enc := cellsU) 4 cellsU_len (by decide) rfl; have := (List.getElem?_eq_some_iff.1 hu).1; omega)) (.inr (hS.pickN 16 [4, 5, 6, 7, 8])) fun a ha => ?_;refine jH 16 (zZ (s := s11) (j := x.2.toNat * 1 + 0) (xs := encU X.uw) (xs' := encU (X.uw.set x.2.toNat ((⟨s20.A, s20.n, s20.c⟩ : Sl), u.2))) 4 ha (qU (t := 49) (x := 43) (y := 42)) rfl rfl rfl (by kernel_rfl) hS rfl (by have := (List.getElem?_eq_some_iff.1 hu).1; rw [encU_length]; omega) ((flat_set (enc := cellsU) (x' := ((⟨s20.A, s20.n, s20.c⟩ : Sl), u.2)) cellsU_len hu (by decide) rfl)) (fun w a (hS : Sat w0 w ((SX.blk b15 [iv ef] 3) :: (RwJ s20 (u.2 ++ [ef])) :: (RwJ u.1 u.2) :: (jW ((X.uw.eraseIdx x.2.toNat).map unwN)) :: (RwU s11 (X.uw.set x.2.toNat ((⟨s20.A, s20.n, s20.c⟩ : Sl), u.2))) :: (SX.blk b7 [.bool x.1, iv x.2] 149) :: (RB0 b5) :: (SX.blk b3 [iv ek, iv ef, iv ev] 57) :: (RB b1 s_1 V.pa V.de s11 V.re V.rp V.be) :: (RwB s_1 (c.take (c.length - 1))) :: (RwE V.pa p) :: (RwJ V.de X.dep) :: (RwU V.un X.uw) :: (RwR V.re X.rcs) :: (RwJ V.rp X.rep) :: (RwJ V.be b) :: Rs)) ha => ?_));replace hS := hS.pickN 16 [1, 3, 4, 0, 2, 5, 6, 7, 8, 9, 10, 11, 12, 13, 14, 15];replace hS : Sat w0 w ((jW ((X.uw.set x.2.toNat ((⟨s20.A, s20.n, s20.c⟩ : Sl), (u.2 ++ [ef]))).map unwN)) :: (RwU s11 (X.uw.set x.2.toNat ((⟨s20.A, s20.n, s20.c⟩ : Sl), u.2))) :: (SX.blk b15 [iv ef] 3) :: (RwJ u.1 u.2) :: (SX.blk b7 [.bool x.1, iv x.2] 149) :: (RB0 b5) :: (SX.blk b3 [iv ek, iv ef, iv ev] 57) :: (RB b1 s_1 V.pa V.de s11 V.re V.rp V.be) :: (RwB s_1 (c.take (c.length - 1))) :: (RwE V.pa p) :: (RwJ V.de X.dep) :: (RwU V.un X.uw) :: (RwR V.re X.rcs) :: (RwJ V.rp X.rep) :: (RwJ V.be b) :: Rs) := Sat.putAt (g := unwN) (y := ((⟨s20.A, s20.n, s20.c⟩ : Sl), (u.2 ++ [ef]))) hu hS
   replace hS : Sat w0 w ((jW ((X.uw.set x.2.toNat ((⟨s20.A, s20.n, s20.c⟩ : Sl), (u.2 ++ [ef]))).map unwN)) :: (RwU s11 (X.uw.set x.2.toNat ((⟨s20.A, s20.n, s20.c⟩ : Sl), (u.2 ++ [ef])))) :: (SX.blk b15 [iv ef] 3) :: (RwJ u.1 u.2) :: (SX.blk b7 [.bool x.1, iv x.2] 149) :: (RB0 b5) :: (SX.blk b3 [iv ek, iv ef, iv ev] 57) :: (RB b1 s_1 V.pa V.de s11 V.re V.rp V.be) :: (RwB s_1 (c.take (c.length - 1))) :: (RwE V.pa p) :: (RwJ V.de X.dep) :: (RwU V.un X.uw) :: (RwR V.re X.rcs) :: (RwJ V.rp X.rep) :: (RwJ V.be b) :: Rs) := by unfold RwU; rw [encU_same (a := ((⟨s20.A, s20.n, s20.c⟩ : Sl), (u.2 ++ [ef]))) (b := ((⟨s20.A, s20.n, s20.c⟩ : Sl), u.2)) rfl]; exact hS
   refine xJ (xX ?_);replace ha := ha.as [(2, ptr b1 0), (4, ptr b5 0), (5, ptr b7 0)] rfl;replace hS : Sat w0 w ((jW ((X.uw.set x.2.toNat ((⟨s20.A, s20.n, s20.c⟩ : Sl), (u.2 ++ [ef]))).map unwN)) :: (RwU s11 (X.uw.set x.2.toNat ((⟨s20.A, s20.n, s20.c⟩ : Sl), (u.2 ++ [ef])))) :: (SX.blk b15 [iv ef] 3) :: (RwJ u.1 u.2) :: (SX.blk b7 [.bool x.1, iv x.2] 149) :: (RB0 b5) :: (SX.blk b3 [iv ek, iv ef, iv ev] 57) :: (RB b1 s_1 V.pa V.de s11 V.re V.rp V.be) :: (RwB s_1 (c.take (c.length - 1))) :: (RwE V.pa p) :: (RwJ V.de X.dep) :: (RwU V.un X.uw) :: (RwR V.re X.rcs) :: (RwJ V.rp X.rep) :: (RwJ V.be b) :: Rs) := hS;exact jJ ⟨s20, b15, ha.keeps [2, 4, 5] _ rfl, hS⟩
  refine id (qJ 41 [iv ef] 3 (fun b => .slice (some ⟨b, 0, none⟩) 1 1) ha hS fun b22 w a hb23 hS ha => ?_)
  refine ⟨.inr (hS.pickN 15 [3, 4, 5, 6, 7]), ?_⟩
  replace hS := hS.pickN 15 [1, 0, 2, 3, 4, 5, 6, 7, 8, 9, 10, 11, 12, 13, 14]
  refine jH 10 (qG 38 (vs := [.slice u.1.A u.1.n u.1.c]) ha (own4_sat hS (by omega)) fun v24 w a hp25 ha => ?_)
  obtain ⟨o2, rfl, hS⟩ := hp25
  refine ⟨.inr (hS.pickN 16 [4, 5, 6, 7, 8]), ?_⟩
  refine jH 14 (o_ap 42 0 2 (encJ (u.2 ++ [ef])) ha hS rfl rfl (by rw [encJ_length]; simp only [List.length_cons, List.length_nil, List.length_set, List.length_modify, List.length_append, List.length_take]; omega) (encJ_snocE _ _) fun s29 w a hS hn30 ha => ?_)
  have hl_s29 : s29.n = _ := hS.rowL (s := s29) (enc := cellsJ) 0 cellsJ_len (by decide) rfl
  simp only [List.length_append, List.length_cons, List.length_nil] at hl_s29
  refine ⟨.inr (hS.pickN 16 [4, 5, 6, 7, 8]), ?_⟩
  refine zQ 15 (.pointer (some ⟨bk s11, x.2.toNat * 1, none⟩)) ha (xW (s := s11) (el := 49) (sz := 1) (j := x.2.toNat) ha (yU (t := 105) (x := 29) (y := 31) (d := 43)) rfl rfl (by kernel_rfl) (by kernel_rfl) (hS.rowA (s := s11) 4 rfl (by have := (List.getElem?_eq_some_iff.1 hu).1; rw [encU_length]; omega)) ((Int.toNat_of_nonneg ho.1).symm) (by have h9 := hS.rowL (s := s11) (enc := cellsU) 4 cellsU_len (by decide) rfl; have := (List.getElem?_eq_some_iff.1 hu).1; omega)) (.inr (hS.pickN 16 [4, 5, 6, 7, 8])) fun a ha => ?_
  refine jH 16 (zZ (s := s11) (j := x.2.toNat * 1 + 0) (xs := encU X.uw) (xs' := encU (X.uw.set x.2.toNat ((⟨s29.A, s29.n, s29.c⟩ : Sl), u.2))) 4 ha (qU (t := 49) (x := 43) (y := 42)) rfl rfl rfl (by kernel_rfl) hS rfl (by have := (List.getElem?_eq_some_iff.1 hu).1; rw [encU_length]; omega) ((flat_set (enc := cellsU) (x' := ((⟨s29.A, s29.n, s29.c⟩ : Sl), u.2)) cellsU_len hu (by decide) rfl)) (fun w a (hS : Sat w0 w ((RwJ s29 (u.2 ++ [ef])) :: (RwJ u.1 u.2) :: (SX.blk b22 [iv ef] 3) :: (jW ((X.uw.eraseIdx x.2.toNat).map unwN)) :: (RwU s11 (X.uw.set x.2.toNat ((⟨s29.A, s29.n, s29.c⟩ : Sl), u.2))) :: (SX.blk b7 [.bool x.1, iv x.2] 149) :: (RB0 b5) :: (SX.blk b3 [iv ek, iv ef, iv ev] 57) :: (RB b1 s_1 V.pa V.de s11 V.re V.rp V.be) :: (RwB s_1 (c.take (c.length - 1))) :: (RwE V.pa p) :: (RwJ V.de X.dep) :: (RwU V.un X.uw) :: (RwR V.re X.rcs) :: (RwJ V.rp X.rep) :: (RwJ V.be b) :: Rs)) ha => ?_))
  replace hS := hS.pickN 16 [0, 3, 4, 1, 2, 5, 6, 7, 8, 9, 10, 11, 12, 13, 14, 15]
  replace hS : Sat w0 w ((jW ((X.uw.set x.2.toNat ((⟨s29.A, s29.n, s29.c⟩ : Sl), (u.2 ++ [ef]))).map unwN)) :: (RwU s11 (X.uw.set x.2.toNat ((⟨s29.A, s29.n, s29.c⟩ : Sl), u.2))) :: (RwJ u.1 u.2) :: (SX.blk b22 [iv ef] 3) :: (SX.blk b7 [.bool x.1, iv x.2] 149) :: (RB0 b5) :: (SX.blk b3 [iv ek, iv ef, iv ev] 57) :: (RB b1 s_1 V.pa V.de s11 V.re V.rp V.be) :: (RwB s_1 (c.take (c.length - 1))) :: (RwE V.pa p) :: (RwJ V.de X.dep) :: (RwU V.un X.uw) :: (RwR V.re X.rcs) :: (RwJ V.rp X.rep) :: (RwJ V.be b) :: Rs) := Sat.putAt (g := unwN) (y := ((⟨s29.A, s29.n, s29.c⟩ : Sl), (u.2 ++ [ef]))) hu hS
  replace hS : Sat w0 w ((jW ((X.uw.set x.2.toNat ((⟨s29.A, s29.n, s29.c⟩ : Sl), (u.2 ++ [ef]))).map unwN)) :: (RwU s11 (X.uw.set x.2.toNat ((⟨s29.A, s29.n, s29.c⟩ : Sl), (u.2 ++ [ef])))) :: (RwJ u.1 u.2) :: (SX.blk b22 [iv ef] 3) :: (SX.blk b7 [.bool x.1, iv x.2] 149) :: (RB0 b5) :: (SX.blk b3 [iv ek, iv ef, iv ev] 57) :: (RB b1 s_1 V.pa V.de s11 V.re V.rp V.be) :: (RwB s_1 (c.take (c.length - 1))) :: (RwE V.pa p) :: (RwJ V.de X.dep) :: (RwU V.un X.uw) :: (RwR V.re X.rcs) :: (RwJ V.rp X.rep) :: (RwJ V.be b) :: Rs) := by unfold RwU; rw [encU_same (a := ((⟨s29.A, s29.n, s29.c⟩ : Sl), (u.2 ++ [ef]))) (b := ((⟨s29.A, s29.n, s29.c⟩ : Sl), u.2)) rfl]; exact hS
  refine xJ (xX ?_)
  replace ha := ha.as [(2, ptr b1 0), (4, ptr b5 0), (5, ptr b7 0)] rfl
  replace hS := hS.pickN 15 [0, 1, 3, 2, 4, 5, 6, 7, 8, 9, 10, 11, 12, 13, 14]
  exact jJ ⟨s29, b22, ha.keeps [2, 4, 5] _ rfl, hS⟩
 rintro a w ⟨g1_0, g1_1, ha, hS⟩
 refine wp_seq (wp_seq (jX [0, 1, 2, 3] (jQ [(0, 44, ptr b1 0)] ha fun a ha => ?_)))
 refine jU (d := 45) (b := b1) (j := 0) ha (hS.blk 7 rfl) rfl fun a ha => ?_
 refine jQ [(2, 46, iv (s_1.n : Int)), (3, 47, .bool (decide ((s_1.n : Int) = 0)))] ha fun a ha => ?_
 refine jY (jJ ?_)
 by_cases c31 : (s_1.n : Int) = 0
 ·
  refine jG ha rfl (decide_eq_true c31) ?_
  refine wp_seq (jX [0, 1, 2, 3, 4] (xG 48 ha (hS.blk 7 rfl) fun a ha => ?_))
  refine jQ [(1, 49, ptr b7 1)] ha fun a ha => ?_
  refine jU (d := 50) (b := b7) (j := 1) ha (hS.blk 4 rfl) rfl fun a ha => ?_
  replace hS := hS.pickN 15 [8, 9, 10, 1, 0, 12, 13, 14, 4, 5, 7]
  replace hS : Sat w0 w ((rdA ⟨s_1, V.pa, V.de, s11, V.re, V.rp, V.be⟩ (n + 1) ⟨(c.take (c.length - 1)), p, b⟩) :: (SX.blk b7 [.bool x.1, iv x.2] 149) :: (RB0 b5) :: (RB b1 s_1 V.pa V.de s11 V.re V.rp V.be) :: Rs) := shutRd (V := ⟨s_1, V.pa, V.de, s11, V.re, V.rp, V.be⟩) ⟨X.dep, (X.uw.set x.2.toNat ((⟨g1_0.A, g1_0.n, g1_0.c⟩ : Sl), (u.2 ++ [ef]))), X.rcs, X.rep⟩ (by refine ⟨?_, ?_, ?_, ?_, ?_, ?_, ?_, ul_set hX.kul (by simp only [List.length_append, List.length_cons, List.length_nil]; have := hX.kul u (List.mem_of_getElem? hu); omega)⟩ <;> (try simp only [List.length_set, List.length_modify, List.length_append, List.length_take, List.length_cons, List.length_nil]) <;> omega) hS
  refine jZ (qG 51 (vs := [.agg #[.slice s_1.A s_1.n s_1.c, .slice V.pa.A V.pa.n V.pa.c, .slice V.de.A V.de.n V.de.c, .slice s11.A s11.n s11.c, .slice V.re.A V.re.n V.re.c, .slice V.rp.A V.rp.n V.rp.c, .slice V.be.A V.be.n V.be.c], iv x.2, iv 3]) ha (l4Fate_sat (V := (⟨s_1, V.pa, V.de, s11, V.re, V.rp, V.be⟩ : RV)) (n := n + 1) (c := (c.take (c.length - 1))) (p := p) (b := b) (k := x.2) (fate := 3) hS (by omega) ⟨by omega, by omega⟩) fun v32 w a hp33 ha => ?_)
  obtain ⟨V1, rfl, hS⟩ := hp33
  obtain ⟨Xx1, hXx1, hS⟩ := openRd (c := (c.take (c.length - 1))) (p := (p.modify x.2.toNat fun z => (z.1, z.2.1, 3))) (b := b) hS
  obtain ⟨hnca, hnpa, hnde, hnun, hnre, hnrp, hnbe⟩ := rd_ns (V := V1) (c := (c.take (c.length - 1))) (p := (p.modify x.2.toNat fun z => (z.1, z.2.1, 3))) (b := b) (X := Xx1) hS
  replace hS : Sat w0 w ((RwB V1.ca (c.take (c.length - 1))) :: (RwE V1.pa (p.modify x.2.toNat fun z => (z.1, z.2.1, 3))) :: (RwJ V1.de Xx1.dep) :: (RwU V1.un Xx1.uw) :: (jW (Xx1.uw.map unwN)) :: (RwR V1.re Xx1.rcs) :: (RwJ V1.rp Xx1.rep) :: (RwJ V1.be b) :: (SX.blk b7 [.bool x.1, iv x.2] 149) :: (RB0 b5) :: (RB b1 s_1 V.pa V.de s11 V.re V.rp V.be) :: Rs) := hS
  obtain ⟨hX1, hX2, hX3, hX4, hX5, hX6, hX7, _⟩ := id hXx1
  try simp only [List.length_set, List.length_modify] at hnca hnpa hnde hnun hnre hnrp hnbe hX1 hX2 hX3 hX4 hX5 hX6 hX7
  refine jZ (o_sa 9 ha (qU (t := 107) (x := 4) (y := 51)) hS fun w a hS ha => ?_)
  refine jY (jJ (wp_ret (xQ (qK ha (by kernel_rfl) (xZ (t := 4) (ty := 107) (i := 9) ha rfl hS rfl (by kernel_rfl)) ?_))))
  have hP : SX.popR ⟨c, p, b⟩ = ⟨c.take (c.length - 1), p, b⟩ := rfl
  replace hS := hS.pickN 11 [0, 1, 2, 3, 4, 5, 6, 7]
  replace hS : Sat w0 w ((rdA ⟨V1.ca, V1.pa, V1.de, V1.un, V1.re, V1.rp, V1.be⟩ (n + 1) ⟨(c.take (c.length - 1)), (p.modify x.2.toNat fun z => (z.1, z.2.1, 3)), b⟩) :: Rs) := shutRd (V := ⟨V1.ca, V1.pa, V1.de, V1.un, V1.re, V1.rp, V1.be⟩) ⟨Xx1.dep, Xx1.uw, Xx1.rcs, Xx1.rep⟩ (by refine ⟨?_, ?_, ?_, ?_, ?_, ?_, ?_, hXx1.kul⟩ <;> (try simp only [List.length_set, List.length_modify, List.length_append, List.length_take, List.length_cons, List.length_nil]) <;> omega) hS
  have hE : SX.unwR ⟨c, p, b⟩ = ⟨(c.take (c.length - 1)), (p.modify x.2.toNat fun z => (z.1, z.2.1, 3)), b⟩ := by rw [SX.unwR, if_pos (by rw [hP]; dsimp only; rw [List.length_take]; omega), hP, callAt_of hx]; try rfl
  rw [hE]
  exact ⟨⟨V1.ca, V1.pa, V1.de, V1.un, V1.re, V1.rp, V1.be⟩, rfl, hS.pickN 1 [0]⟩
 refine jV ha rfl (decide_eq_false c31) ?_
 refine wp_skip (jJ (wp_seq (wp_seq ?_)))
 obtain ⟨y, hy⟩ : ∃ y, (c.take (c.length - 1))[(c.take (c.length - 1)).length - 1]? = some y := ⟨_, List.getElem?_eq_getElem (by rw [List.length_take]; omega)⟩
 have hyb := hyp y hy (by omega)
 refine jX [0, 1, 2, 3, 4, 5, 6, 7, 8, 9] (jQ [(0, 52, ptr b1 0)] ha fun a ha => ?_)
 refine jU (d := 53) (b := b1) (j := 0) ha (hS.blk 7 rfl) rfl fun a ha => ?_
 refine jQ [(2, 54, ptr b1 0)] ha fun a ha => ?_
 refine jU (d := 55) (b := b1) (j := 0) ha (hS.blk 7 rfl) rfl fun a ha => ?_
 refine jQ [(4, 56, iv (s_1.n : Int))] ha fun a ha => ?_
 refine zJ 57 ((s_1.n : Int) - 1) ha fun a ha => ?_
 refine xU (.pointer (some ⟨bk s_1, ((c.take (c.length - 1)).length - 1) * 2, none⟩)) ha (xW (s := s_1) (el := 149) (sz := 2) (j := ((c.take (c.length - 1)).length - 1)) ha (yU (t := 103) (x := 53) (y := 57) (d := 58)) rfl rfl (by kernel_rfl) (by kernel_rfl) (hS.rowA (s := s_1) 8 rfl (by have := (List.getElem?_eq_some_iff.1 hy).1; rw [encB_length]; omega)) ((by rw [List.length_take]; omega)) (by have h9 := hS.rowL (s := s_1) (enc := cellsB) 8 cellsB_len (by decide) rfl; have := (List.getElem?_eq_some_iff.1 hy).1; omega)) fun a ha => ?_
 refine jQ [(7, 59, .pointer (some ⟨bk s_1, ((c.take (c.length - 1)).length - 1) * 2 + 1, none⟩))] ha fun a ha => ?_
 refine xU (iv y.2) ha (zK ha (zV (t := 3) (x := 59) (d := 60) (ty := 3)) rfl (by kernel_rfl) (fun w' hw => by rw [hw]; exact (hS.rdC (s := s_1) 8 rfl).cells _ _ ((flat_get (enc := cellsB) (o := 1) cellsB_len hy (by decide)).trans rfl))) fun a ha => ?_
 refine jQ [(9, 6, iv y.2)] ha fun a ha => ?_
 refine jY (jJ (wp_seq (jX [0, 1, 2, 3, 4, 5] (jQ [(0, 61, ptr b7 0)] ha fun a ha => ?_))))
 refine jU (d := 62) (b := b7) (j := 0) ha (hS.blk 4 rfl) rfl fun a ha => ?_
 refine jQ [(2, 63, .bool x.1)] ha fun a ha => ?_
 rcases Bool.eq_false_or_eq_true x.1 with c34 | c34
 ·
  replace ha := ha.turn 62 (.bool true) rfl (congrArg Value.bool c34)
  replace ha := ha.turn 63 (.bool true) rfl (congrArg Value.bool c34)
  refine jQ [(3, 64, iv y.2), (4, 65, .bool (decide (y.2 ≥ 0))), (5, 66, .bool (decide (y.2 ≥ 0)))] ha fun a ha => ?_
  refine jY (jJ ?_)
  by_cases c35 : y.2 ≥ 0
  ·
   refine jG ha rfl (decide_eq_true c35) ?_;refine wp_seq (jX [0, 1, 2, 3] (xG 67 ha (hS.blk 7 rfl) fun a ha => ?_));refine jQ [(1, 68, iv y.2)] ha fun a ha => ?_;replace hS := hS.pickN 15 [8, 9, 10, 1, 0, 12, 13, 14, 4, 5, 7];replace hS : Sat w0 w ((rdA ⟨s_1, V.pa, V.de, s11, V.re, V.rp, V.be⟩ (n + 1) ⟨(c.take (c.length - 1)), p, b⟩) :: (SX.blk b7 [.bool x.1, iv x.2] 149) :: (RB0 b5) :: (RB b1 s_1 V.pa V.de s11 V.re V.rp V.be) :: Rs) := shutRd (V := ⟨s_1, V.pa, V.de, s11, V.re, V.rp, V.be⟩) ⟨X.dep, (X.uw.set x.2.toNat ((⟨g1_0.A, g1_0.n, g1_0.c⟩ : Sl), (u.2 ++ [ef]))), X.rcs, X.rep⟩ (by refine ⟨?_, ?_, ?_, ?_, ?_, ?_, ?_, ul_set hX.kul (by simp only [List.length_append, List.length_cons, List.length_nil]; have := hX.kul u (List.mem_of_getElem? hu); omega)⟩ <;> (try simp only [List.length_set, List.length_modify, List.length_append, List.length_take, List.length_cons, List.length_nil]) <;> omega) hS;refine jZ (qG 69 (vs := [.agg #[.slice s_1.A s_1.n s_1.c, .slice V.pa.A V.pa.n V.pa.c, .slice V.de.A V.de.n V.de.c, .slice s11.A s11.n s11.c, .slice V.re.A V.re.n V.re.c, .slice V.rp.A V.rp.n V.rp.c, .slice V.be.A V.be.n V.be.c], iv y.2, iv 2]) ha (l4Fate_sat (V := (⟨s_1, V.pa, V.de, s11, V.re, V.rp, V.be⟩ : RV)) (n := n + 1) (c := (c.take (c.length - 1))) (p := p) (b := b) (k := y.2) (fate := 2) hS (by omega) ⟨by omega, by omega⟩) fun v36 w a hp37 ha => ?_);obtain ⟨V2, rfl, hS⟩ := hp37;obtain ⟨Xx2, hXx2, hS⟩ := openRd (c := (c.take (c.length - 1))) (p := (p.modify y.2.toNat fun z => (z.1, z.2.1, 2))) (b := b) hS;obtain ⟨hnca, hnpa, hnde, hnun, hnre, hnrp, hnbe⟩ := rd_ns (V := V2) (c := (c.take (c.length - 1))) (p := (p.modify y.2.toNat fun z => (z.1, z.2.1, 2))) (b := b) (X := Xx2) hS;replace hS : Sat w0 w ((RwB V2.ca (c.take (c.length - 1))) :: (RwE V2.pa (p.modify y.2.toNat fun z => (z.1, z.2.1, 2))) :: (RwJ V2.de Xx2.dep) :: (RwU V2.un Xx2.uw) :: (jW (Xx2.uw.map unwN)) :: (RwR V2.re Xx2.rcs) :: (RwJ V2.rp Xx2.rep) :: (RwJ V2.be b) :: (SX.blk b7 [.bool x.1, iv x.2] 149) :: (RB0 b5) :: (RB b1 s_1 V.pa V.de s11 V.re V.rp V.be) :: Rs) := hS;obtain ⟨hX1, hX2, hX3, hX4, hX5, hX6, hX7, _⟩ := id hXx2
   try simp only [List.length_set, List.length_modify] at hnca hnpa hnde hnun hnre hnrp hnbe hX1 hX2 hX3 hX4 hX5 hX6 hX7
   refine jZ (o_sa 10 ha (qU (t := 107) (x := 2) (y := 69)) hS fun w a hS ha => ?_);refine jY ?_;replace ha := ha.as [(2, ptr b1 0), (4, ptr b5 0), (5, ptr b7 0), (6, iv y.2)] rfl;refine jJ (wp_seq (jX [0, 1, 2, 3, 4] (jQ [(0, 70, ptr b1 5)] ha fun a ha => ?_)));refine jU (d := 71) (b := b1) (j := 5) ha (hS.blk 10 rfl) rfl fun a ha => ?_;replace hS := hS.pickN 11 [6, 0, 1, 2, 3, 4, 5, 7, 8, 9, 10];refine jZ (qG 72 (vs := [.slice V2.rp.A V2.rp.n V2.rp.c]) ha (own4_sat hS (by omega)) fun v38 w a hp39 ha => ?_);obtain ⟨o3, rfl, hS⟩ := hp39;refine jQ [(3, 73, ptr b1 5)] ha fun a ha => ?_;refine jZ (qH b1 5 (.slice o3.A o3.n o3.c) 11 ha hS rfl rfl fun w a hS ha => ?_);refine jY (jJ (wp_seq ?_));have hz11 := hS.rowL (s := o3) (enc := cellsJ) 0 cellsJ_len (by decide) rfl;obtain ⟨q11, hq11⟩ : ∃ q, Xx2.rep[y.2.toNat]? = some q := ⟨_, List.getElem?_eq_getElem (by omega)⟩;refine jX [0, 1, 2, 3, 4, 5, 6] (jQ [(0, 74, ptr b1 5)] ha fun a ha => ?_);refine jU (d := 75) (b := b1) (j := 5) ha (hS.blk 11 rfl) rfl fun a ha => ?_;refine jQ [(2, 76, iv y.2), (3, 77, ptr b7 1)] ha fun a ha => ?_;refine jU (d := 78) (b := b7) (j := 1) ha (hS.blk 9 rfl) rfl fun a ha => ?_;refine xU (.pointer (some ⟨bk o3, y.2.toNat * 1, none⟩)) ha (xW (s := o3) (el := 3) (sz := 1) (j := y.2.toNat) ha (yU (t := 49) (x := 75) (y := 76) (d := 79)) rfl rfl (by kernel_rfl) (by kernel_rfl) (hS.rowA (s := o3) 0 rfl (by have := (List.getElem?_eq_some_iff.1 hq11).1; rw [encJ_length]; omega)) ((by omega)) (by have h9 := hS.rowL (s := o3) (enc := cellsJ) 0 cellsJ_len (by decide) rfl; have := (List.getElem?_eq_some_iff.1 hq11).1; omega)) fun a ha => ?_;refine jZ (zZ (s := o3) (j := y.2.toNat * 1 + 0) (xs := encJ Xx2.rep) (xs' := encJ (Xx2.rep.set y.2.toNat x.2)) 0 ha (qU (t := 3) (x := 79) (y := 78)) rfl rfl rfl (by kernel_rfl) hS rfl (by have := (List.getElem?_eq_some_iff.1 hq11).1; rw [encJ_length]; omega) ((flat_set (enc := cellsJ) (x' := x.2) cellsJ_len hq11 (by decide) rfl)) (fun w a (hS : Sat w0 w ((RwJ o3 (Xx2.rep.set y.2.toNat x.2)) :: (RwJ V2.rp Xx2.rep) :: (RwB V2.ca (c.take (c.length - 1))) :: (RwE V2.pa (p.modify y.2.toNat fun z => (z.1, z.2.1, 2))) :: (RwJ V2.de Xx2.dep) :: (RwU V2.un Xx2.uw) :: (jW (Xx2.uw.map unwN)) :: (RwR V2.re Xx2.rcs) :: (RwJ V2.be b) :: (SX.blk b7 [.bool x.1, iv x.2] 149) :: (RB0 b5) :: (RB b1 V2.ca V2.pa V2.de V2.un V2.re o3 V2.be) :: Rs)) ha => ?_));refine jY (jJ (wp_seq (jX [0, 1, 2, 3, 4] (jQ [(0, 80, ptr b1 6)] ha fun a ha => ?_))));refine jU (d := 81) (b := b1) (j := 6) ha (hS.blk 11 rfl) rfl fun a ha => ?_;replace hS := hS.pickN 12 [8, 0, 1, 2, 3, 4, 5, 6, 7, 9, 10, 11];refine jZ (qG 82 (vs := [.slice V2.be.A V2.be.n V2.be.c]) ha (own4_sat hS (by omega)) fun v40 w a hp41 ha => ?_);obtain ⟨o4, rfl, hS⟩ := hp41;refine jQ [(3, 83, ptr b1 6)] ha fun a ha => ?_;refine jZ (qH b1 6 (.slice o4.A o4.n o4.c) 12 ha hS rfl rfl fun w a hS ha => ?_);refine jY (jJ ?_);have hz13 := hS.rowL (s := o4) (enc := cellsJ) 0 cellsJ_len (by decide) rfl;obtain ⟨q13, hq13⟩ : ∃ q, b[x.2.toNat]? = some q := ⟨_, List.getElem?_eq_getElem (by omega)⟩
   refine jX [0, 1, 2, 3, 4, 5, 6] (jQ [(0, 84, ptr b1 6)] ha fun a ha => ?_);refine jU (d := 85) (b := b1) (j := 6) ha (hS.blk 12 rfl) rfl fun a ha => ?_;refine jQ [(2, 86, ptr b7 1)] ha fun a ha => ?_;refine jU (d := 87) (b := b7) (j := 1) ha (hS.blk 10 rfl) rfl fun a ha => ?_;refine jQ [(4, 88, iv y.2)] ha fun a ha => ?_;refine xU (.pointer (some ⟨bk o4, x.2.toNat * 1, none⟩)) ha (xW (s := o4) (el := 3) (sz := 1) (j := x.2.toNat) ha (yU (t := 49) (x := 85) (y := 87) (d := 89)) rfl rfl (by kernel_rfl) (by kernel_rfl) (hS.rowA (s := o4) 0 rfl (by have := (List.getElem?_eq_some_iff.1 hq13).1; rw [encJ_length]; omega)) ((by omega)) (by have h9 := hS.rowL (s := o4) (enc := cellsJ) 0 cellsJ_len (by decide) rfl; have := (List.getElem?_eq_some_iff.1 hq13).1; omega)) fun a ha => ?_;refine jZ (zZ (s := o4) (j := x.2.toNat * 1 + 0) (xs := encJ b) (xs' := encJ (b.set x.2.toNat y.2)) 0 ha (qU (t := 3) (x := 89) (y := 88)) rfl rfl rfl (by kernel_rfl) hS rfl (by have := (List.getElem?_eq_some_iff.1 hq13).1; rw [encJ_length]; omega) ((flat_set (enc := cellsJ) (x' := y.2) cellsJ_len hq13 (by decide) rfl)) (fun w a (hS : Sat w0 w ((RwJ o4 (b.set x.2.toNat y.2)) :: (RwJ V2.be b) :: (RwJ o3 (Xx2.rep.set y.2.toNat x.2)) :: (RwJ V2.rp Xx2.rep) :: (RwB V2.ca (c.take (c.length - 1))) :: (RwE V2.pa (p.modify y.2.toNat fun z => (z.1, z.2.1, 2))) :: (RwJ V2.de Xx2.dep) :: (RwU V2.un Xx2.uw) :: (jW (Xx2.uw.map unwN)) :: (RwR V2.re Xx2.rcs) :: (SX.blk b7 [.bool x.1, iv x.2] 149) :: (RB0 b5) :: (RB b1 V2.ca V2.pa V2.de V2.un V2.re o3 o4) :: Rs)) ha => ?_));refine jY ?_;replace ha := ha.as [(2, ptr b1 0), (4, ptr b5 0), (5, ptr b7 0)] rfl;refine jJ (wp_seq (jX [0, 1, 2, 3, 4] (xG 90 ha (hS.blk 12 rfl) fun a ha => ?_)));refine jQ [(1, 91, ptr b7 1)] ha fun a ha => ?_;refine jU (d := 92) (b := b7) (j := 1) ha (hS.blk 10 rfl) rfl fun a ha => ?_;replace hS := hS.pickN 13 [4, 5, 6, 7, 8, 9, 2, 0, 10, 11, 12];replace hS : Sat w0 w ((rdA ⟨V2.ca, V2.pa, V2.de, V2.un, V2.re, o3, o4⟩ (n + 1) ⟨(c.take (c.length - 1)), (p.modify y.2.toNat fun z => (z.1, z.2.1, 2)), (b.set x.2.toNat y.2)⟩) :: (SX.blk b7 [.bool x.1, iv x.2] 149) :: (RB0 b5) :: (RB b1 V2.ca V2.pa V2.de V2.un V2.re o3 o4) :: Rs) := shutRd (V := ⟨V2.ca, V2.pa, V2.de, V2.un, V2.re, o3, o4⟩) ⟨Xx2.dep, Xx2.uw, Xx2.rcs, (Xx2.rep.set y.2.toNat x.2)⟩ (by refine ⟨?_, ?_, ?_, ?_, ?_, ?_, ?_, hXx2.kul⟩ <;> (try simp only [List.length_set, List.length_modify, List.length_append, List.length_take, List.length_cons, List.length_nil]) <;> omega) hS;refine jZ (qG 93 (vs := [.agg #[.slice V2.ca.A V2.ca.n V2.ca.c, .slice V2.pa.A V2.pa.n V2.pa.c, .slice V2.de.A V2.de.n V2.de.c, .slice V2.un.A V2.un.n V2.un.c, .slice V2.re.A V2.re.n V2.re.c, .slice o3.A o3.n o3.c, .slice o4.A o4.n o4.c], iv x.2]) ha (l4Top_sat (V := (⟨V2.ca, V2.pa, V2.de, V2.un, V2.re, o3, o4⟩ : RV)) (n := n + 1) (c := (c.take (c.length - 1))) (p := (p.modify y.2.toNat fun z => (z.1, z.2.1, 2))) (b := (b.set x.2.toNat y.2)) (on := x.2) hS (by omega) (by rw [List.length_take]; omega)) fun v42 w a hp43 ha => ?_)
   obtain ⟨V3, rfl, hS⟩ := hp43;refine jZ (o_sa 2 ha (qU (t := 107) (x := 4) (y := 93)) hS fun w a hS ha => ?_);refine jY (jJ (wp_ret (qK ha (by kernel_rfl) (xZ (t := 4) (ty := 107) (i := 2) ha rfl hS rfl (by kernel_rfl)) ?_)));have hP : SX.popR ⟨c, p, b⟩ = ⟨c.take (c.length - 1), p, b⟩ := rfl;have hE : SX.unwR ⟨c, p, b⟩ = (SX.putAt ⟨(c.take (c.length - 1)), (p.modify y.2.toNat fun z => (z.1, z.2.1, 2)), (b.set x.2.toNat y.2)⟩ 1 x.2) := by rw [SX.unwR, if_neg (by rw [hP]; dsimp only; rw [List.length_take]; omega), hP, callAt_of hx, callAt_of hy, if_pos ⟨c34, c35⟩]; try rfl
   rw [hE];exact ⟨V3, rfl, hS.pickN 4 [0]⟩
  refine jV ha rfl (decide_eq_false c35) ?_
  refine wp_skip (jJ (wp_seq (jX [0, 1, 2, 3, 4] (xG 90 ha (hS.blk 7 rfl) fun a ha => ?_))))
  refine jQ [(1, 91, ptr b7 1)] ha fun a ha => ?_
  refine jU (d := 92) (b := b7) (j := 1) ha (hS.blk 4 rfl) rfl fun a ha => ?_
  replace hS := hS.pickN 15 [8, 9, 10, 1, 0, 12, 13, 14, 4, 5, 7]
  replace hS : Sat w0 w ((rdA ⟨s_1, V.pa, V.de, s11, V.re, V.rp, V.be⟩ (n + 1) ⟨(c.take (c.length - 1)), p, b⟩) :: (SX.blk b7 [.bool x.1, iv x.2] 149) :: (RB0 b5) :: (RB b1 s_1 V.pa V.de s11 V.re V.rp V.be) :: Rs) := shutRd (V := ⟨s_1, V.pa, V.de, s11, V.re, V.rp, V.be⟩) ⟨X.dep, (X.uw.set x.2.toNat ((⟨g1_0.A, g1_0.n, g1_0.c⟩ : Sl), (u.2 ++ [ef]))), X.rcs, X.rep⟩ (by refine ⟨?_, ?_, ?_, ?_, ?_, ?_, ?_, ul_set hX.kul (by simp only [List.length_append, List.length_cons, List.length_nil]; have := hX.kul u (List.mem_of_getElem? hu); omega)⟩ <;> (try simp only [List.length_set, List.length_modify, List.length_append, List.length_take, List.length_cons, List.length_nil]) <;> omega) hS
  refine jZ (qG 93 (vs := [.agg #[.slice s_1.A s_1.n s_1.c, .slice V.pa.A V.pa.n V.pa.c, .slice V.de.A V.de.n V.de.c, .slice s11.A s11.n s11.c, .slice V.re.A V.re.n V.re.c, .slice V.rp.A V.rp.n V.rp.c, .slice V.be.A V.be.n V.be.c], iv x.2]) ha (l4Top_sat (V := (⟨s_1, V.pa, V.de, s11, V.re, V.rp, V.be⟩ : RV)) (n := n + 1) (c := (c.take (c.length - 1))) (p := p) (b := b) (on := x.2) hS (by omega) (by rw [List.length_take]; omega)) fun v44 w a hp45 ha => ?_)
  obtain ⟨V4, rfl, hS⟩ := hp45
  refine jZ (o_sa 2 ha (qU (t := 107) (x := 4) (y := 93)) hS fun w a hS ha => ?_)
  refine jY ?_
  replace ha := ha.as [(4, ptr b5 0)] rfl
  refine jJ (wp_ret (qK ha (by kernel_rfl) (xZ (t := 4) (ty := 107) (i := 2) ha rfl hS rfl (by kernel_rfl)) ?_))
  have hP : SX.popR ⟨c, p, b⟩ = ⟨c.take (c.length - 1), p, b⟩ := rfl
  have hE : SX.unwR ⟨c, p, b⟩ = (SX.putAt ⟨(c.take (c.length - 1)), p, b⟩ 1 x.2) := by rw [SX.unwR, if_neg (by rw [hP]; dsimp only; rw [List.length_take]; omega), hP, callAt_of hx, callAt_of hy, if_neg (fun h9 => c35 h9.2)]; try rfl
  rw [hE]
  exact ⟨V4, rfl, hS.pickN 4 [0]⟩
 replace ha := ha.turn 62 (.bool false) rfl (congrArg Value.bool c34)
 replace ha := ha.turn 63 (.bool false) rfl (congrArg Value.bool c34)
 refine jQ [(3, 64, undef), (4, 65, undef), (5, 66, .bool false)] ha fun a ha => ?_
 refine jY (jJ ?_)
 refine jV ha rfl rfl ?_
 refine wp_skip (jJ (wp_seq (jX [0, 1, 2, 3, 4] (xG 90 ha (hS.blk 7 rfl) fun a ha => ?_))))
 refine jQ [(1, 91, ptr b7 1)] ha fun a ha => ?_
 refine jU (d := 92) (b := b7) (j := 1) ha (hS.blk 4 rfl) rfl fun a ha => ?_
 replace hS := hS.pickN 15 [8, 9, 10, 1, 0, 12, 13, 14, 4, 5, 7]
 replace hS : Sat w0 w ((rdA ⟨s_1, V.pa, V.de, s11, V.re, V.rp, V.be⟩ (n + 1) ⟨(c.take (c.length - 1)), p, b⟩) :: (SX.blk b7 [.bool x.1, iv x.2] 149) :: (RB0 b5) :: (RB b1 s_1 V.pa V.de s11 V.re V.rp V.be) :: Rs) := shutRd (V := ⟨s_1, V.pa, V.de, s11, V.re, V.rp, V.be⟩) ⟨X.dep, (X.uw.set x.2.toNat ((⟨g1_0.A, g1_0.n, g1_0.c⟩ : Sl), (u.2 ++ [ef]))), X.rcs, X.rep⟩ (by refine ⟨?_, ?_, ?_, ?_, ?_, ?_, ?_, ul_set hX.kul (by simp only [List.length_append, List.length_cons, List.length_nil]; have := hX.kul u (List.mem_of_getElem? hu); omega)⟩ <;> (try simp only [List.length_set, List.length_modify, List.length_append, List.length_take, List.length_cons, List.length_nil]) <;> omega) hS
 refine jZ (qG 93 (vs := [.agg #[.slice s_1.A s_1.n s_1.c, .slice V.pa.A V.pa.n V.pa.c, .slice V.de.A V.de.n V.de.c, .slice s11.A s11.n s11.c, .slice V.re.A V.re.n V.re.c, .slice V.rp.A V.rp.n V.rp.c, .slice V.be.A V.be.n V.be.c], iv x.2]) ha (l4Top_sat (V := (⟨s_1, V.pa, V.de, s11, V.re, V.rp, V.be⟩ : RV)) (n := n + 1) (c := (c.take (c.length - 1))) (p := p) (b := b) (on := x.2) hS (by omega) (by rw [List.length_take]; omega)) fun v46 w a hp47 ha => ?_)
 obtain ⟨V5, rfl, hS⟩ := hp47
 refine jZ (o_sa 2 ha (qU (t := 107) (x := 4) (y := 93)) hS fun w a hS ha => ?_)
 refine jY ?_
 replace ha := ha.as [(4, ptr b5 0)] rfl
 refine jJ (wp_ret (qK ha (by kernel_rfl) (xZ (t := 4) (ty := 107) (i := 2) ha rfl hS rfl (by kernel_rfl)) ?_))
 have hP : SX.popR ⟨c, p, b⟩ = ⟨c.take (c.length - 1), p, b⟩ := rfl
 have hE : SX.unwR ⟨c, p, b⟩ = (SX.putAt ⟨(c.take (c.length - 1)), p, b⟩ 1 x.2) := by rw [SX.unwR, if_neg (by rw [hP]; dsimp only; rw [List.length_take]; omega), hP, callAt_of hx, callAt_of hy, if_neg (fun h9 => by rw [c34] at h9; exact absurd h9.1 (by decide))]; try rfl
 rw [hE]
 exact ⟨V5, rfl, hS.pickN 4 [0]⟩
theorem code69 : Try.f69.body = some (Code.seq (cr Try.f69 0 false) (Code.seq (cr Try.f69 1 false) (Code.seq (Code.seq (cr Try.f69 2 false) (Code.block 0 (Code.loop (Code.seq (Code.seq (cr Try.f69 3 false) (Code.cond (Operand.tmp 16) Code.skip (Code.exit 0))) (Code.seq (Code.block 1 (Code.seq (cr Try.f69 5 false) (Code.seq (cr Try.f69 6 false) (Code.block 2 (Code.seq (Code.seq (cr Try.f69 7 false) (Code.cond (Operand.tmp 25) Code.skip (cr Try.f69 8 false))) (Code.cond (Operand.tmp 25) (cr Try.f69 9 true) (Code.seq (cr Try.f69 10 false) (Code.cond (Operand.tmp 39) (cr Try.f69 11 false) (Code.seq (cr Try.f69 12 false) (Code.cond (Operand.tmp 44) (cr Try.f69 13 false) (Code.seq (cr Try.f69 14 false) (Code.cond (Operand.tmp 49) (cr Try.f69 15 false) (Code.seq (cr Try.f69 16 false) (Code.cond (Operand.tmp 59) (cr Try.f69 17 false) (Code.seq (cr Try.f69 18 false) (Code.cond (Operand.tmp 64) (cr Try.f69 19 false) Code.skip)))))))))))))))) (cr Try.f69 4 false)))))) (Code.seq (cr Try.f69 20 false) Code.ret)))) := by kernel_rfl
theorem l4Trace_sat0 {w0 : World} {s : Sl} {t : List (Int × Int × Int)} (hr : RdE cellsE 3 w0 s t) (hl : t.length ≤ 1000) (hok : ∀ (i : Nat) e, t[i]? = some e → Ok4 (R4 (t.take i)) e) :
  Calls Try.prog 69 #[.slice s.A s.n s.c] w0 (Ret fun r w' => ∃ V : RV, r = .agg #[.slice V.ca.A V.ca.n V.ca.c, .slice V.pa.A V.pa.n V.pa.c, .slice V.de.A V.de.n V.de.c, .slice V.un.A V.un.n V.un.c, .slice V.re.A V.re.n V.re.c, .slice V.rp.A V.rp.n V.rp.c, .slice V.be.A V.be.n V.be.c] ∧ Sat w0 w' (rdA V t.length (R4 t) :: [])) := by
 have hS : Sat w0 w0 [] := Sat.start w0
 have hsn := hr.len
 refine enter (n := 69) Try.func69 code69 (by kernel_rfl) (Nat.le_of_ble_eq_true rfl) (fun a ha => ?_)
 replace ha : Has 69 [(0, .slice s.A s.n s.c)] a := ha
 refine wp_seq (jX [0] (jZ (qJ 2 [.slice none 0 0, .slice none 0 0, .slice none 0 0, .slice none 0 0, .slice none 0 0, .slice none 0 0, .slice none 0 0] 107 (ptr · 0) ha hS fun b1 w a hb2 hS ha => ?_)))
 refine jY (jJ (wp_seq (jX [0, 1, 2, 3, 4, 5, 6, 7, 8] (jZ (qJ 6 [] 109 (fun b => .slice (some ⟨b, 0, none⟩) 0 0) ha hS fun b3 w a hb4 hS ha => ?_)))))
 refine jZ (qJ 7 [] 3 (fun b => .slice (some ⟨b, 0, none⟩) 0 0) ha hS fun b5 w a hb6 hS ha => ?_)
 refine jZ (qJ 8 [] 49 (fun b => .slice (some ⟨b, 0, none⟩) 0 0) ha hS fun b7 w a hb8 hS ha => ?_)
 refine jZ (qJ 9 [] 61 (fun b => .slice (some ⟨b, 0, none⟩) 0 0) ha hS fun b9 w a hb10 hS ha => ?_)
 refine jZ (qJ 10 [] 3 (fun b => .slice (some ⟨b, 0, none⟩) 0 0) ha hS fun b11 w a hb12 hS ha => ?_)
 refine jZ (qJ 11 [] 3 (fun b => .slice (some ⟨b, 0, none⟩) 0 0) ha hS fun b13 w a hb14 hS ha => ?_)
 refine jQ [(6, 12, .agg #[.slice none 0 0, .slice (some ⟨b3, 0, none⟩) 0 0, .slice (some ⟨b5, 0, none⟩) 0 0, .slice (some ⟨b7, 0, none⟩) 0 0, .slice (some ⟨b9, 0, none⟩) 0 0, .slice (some ⟨b11, 0, none⟩) 0 0, .slice (some ⟨b13, 0, none⟩) 0 0])] ha fun a ha => ?_
 refine jZ (qJ 3 [.slice none 0 0, .slice none 0 0, .slice none 0 0, .slice none 0 0, .slice none 0 0, .slice none 0 0, .slice none 0 0] 107 (ptr · 0) ha hS fun b15 w a hb16 hS ha => ?_)
 refine jZ (o_sa 0 ha (qU (t := 107) (x := 3) (y := 12)) hS fun w a hS ha => ?_)
 refine jY (jJ (wp_seq (wp_seq (jX [0] (jQ [(0, 4, iv 0)] ha fun a ha => ?_)))))
 refine jY (jJ (wp_block ?_))
 replace hS := hS.blk0 3 6 rfl
 replace hS := hS.blk0 1 5 rfl
 replace hS := hS.blk0 1 4 rfl
 replace hS := hS.blk0 2 3 rfl
 replace hS := hS.blk0 1 2 rfl
 replace hS := hS.blk0 1 1 rfl
 replace hS := Sat.merge (l := []) (Sat.nilRow (T := 149) (sz := 2) hS)
 replace hS := hS.pickN 10 [1, 8, 7, 6, 0, 5, 4, 3, 2, 9]
 replace hS := shutRd (V := ⟨(⟨none, 0, 0⟩ : Sl), (⟨some ⟨b3, 0, none⟩, 0, 0⟩ : Sl), (⟨some ⟨b5, 0, none⟩, 0, 0⟩ : Sl), (⟨some ⟨b7, 0, none⟩, 0, 0⟩ : Sl), (⟨some ⟨b9, 0, none⟩, 0, 0⟩ : Sl), (⟨some ⟨b11, 0, none⟩, 0, 0⟩ : Sl), (⟨some ⟨b13, 0, none⟩, 0, 0⟩ : Sl)⟩) (n := 0) (c := []) (p := []) (b := []) ⟨[], [], [], []⟩ ⟨Nat.le_refl _, Nat.le_refl _, Nat.le_refl _, rfl, Nat.le_refl _, rfl, rfl, (fun x hx => by simp at hx)⟩ hS
 replace hS := hS.pickN 3 [1, 2, 0]
 refine wp_loop_ghost (fun n_ a_ w_ => ∃ (i : Nat) (V : RV), n_ = t.length - i ∧ (i ≤ t.length) ∧ Has 69 [(0, .slice s.A s.n s.c), (2, ptr b1 0), (3, ptr b15 0), (4, iv (i : Int))] a_ ∧ Sat w0 w_ ((RB b15 V.ca V.pa V.de V.un V.re V.rp V.be) :: (RB0 b1) :: (rdA V i (R4 (t.take i))) :: [])) _ ⟨0, ⟨(⟨none, 0, 0⟩ : Sl), (⟨some ⟨b3, 0, none⟩, 0, 0⟩ : Sl), (⟨some ⟨b5, 0, none⟩, 0, 0⟩ : Sl), (⟨some ⟨b7, 0, none⟩, 0, 0⟩ : Sl), (⟨some ⟨b9, 0, none⟩, 0, 0⟩ : Sl), (⟨some ⟨b11, 0, none⟩, 0, 0⟩ : Sl), (⟨some ⟨b13, 0, none⟩, 0, 0⟩ : Sl)⟩, rfl, Nat.zero_le _, ha.keeps [0, 2, 3, 4] _ rfl, hS⟩ ?_
 rintro n_ a w ⟨i, V, rfl, hi, ha, hS⟩
 refine wp_seq (wp_seq (jX [0, 1, 2, 3] (jQ [(0, 13, iv (i : Int)), (1, 14, .slice s.A s.n s.c), (2, 15, iv (s.n : Int)), (3, 16, .bool (decide ((i : Int) < (s.n : Int))))] ha fun a ha => ?_)))
 refine jY (jJ ?_)
 by_cases c17 : (i : Int) < (s.n : Int)
 ·
  have hil : i < t.length := by omega
  obtain ⟨y, hy⟩ : ∃ y, t[i]? = some y := ⟨_, List.getElem?_eq_getElem hil⟩
  have hk9 := hok i y hy
  obtain ⟨c, p, b, hR⟩ : ∃ c p b, R4 (t.take i) = ⟨c, p, b⟩ := ⟨_, _, _, rfl⟩
  rw [hR] at hk9
  replace hS : Sat w0 w ((RB b15 V.ca V.pa V.de V.un V.re V.rp V.be) :: (RB0 b1) :: (rdA V i ⟨c, p, b⟩) :: []) := by rw [← hR]; exact hS
  refine jG ha rfl (decide_eq_true c17) ?_
  refine wp_skip (jJ (wp_seq (wp_block (wp_seq (jX [0, 1, 2, 3, 4, 5] (jQ [(0, 19, .slice s.A s.n s.c), (1, 20, iv (i : Int))] ha fun a ha => ?_))))))
  refine xU (.pointer (some ⟨bk s, of_ s + i * 3, none⟩)) ha (kK (el := 57) (sz := 3) (j := i) ha (yU (t := 25) (x := 19) (y := 20) (d := 21)) rfl rfl (by kernel_rfl) (by kernel_rfl) (RdE.at_ (hr.sat hS) _ _ hy).1 (rfl) (by rw [((hr.sat hS)).len]; exact (List.getElem?_eq_some_iff.1 hy).1)) fun a ha => ?_
  refine xU (.agg #[iv y.1, iv y.2.1, iv y.2.2]) ha (v_loadE (b := bk s) (f := of_ s + i * 3) (vs := [iv y.1, iv y.2.1, iv y.2.2]) ha (zV (t := 57) (x := 21) (d := 22) (ty := 57)) rfl (by kernel_rfl) (fun w' hw o u hu => by rw [hw]; exact (RdE.at_ (hr.sat hS) _ _ hy).2 o u hu)) fun a ha => ?_
  refine jZ (qJ 5 [iv 0, iv 0, iv 0] 57 (ptr · 0) ha hS fun b18 w a hb19 hS ha => ?_)
  refine jZ (o_sa 0 ha (qU (t := 57) (x := 5) (y := 22)) hS fun w a hS ha => ?_)
  refine jY (jJ (wp_seq (jX [0, 1] (jQ [(0, 23, ptr b18 0)] ha fun a ha => ?_))))
  refine jU (d := 24) (b := b18) (j := 0) ha (hS.blk 0 rfl) rfl fun a ha => ?_
  refine jY (jJ (wp_block (wp_seq (wp_seq (jX [0, 1] (jQ [(0, 26, .bool (decide (y.1 = 1))), (1, 25, .bool (decide (y.1 = 1)))] ha fun a ha => ?_))))))
  refine jY (jJ ?_)
  by_cases c20 : y.1 = 1
  ·
   refine jG ha rfl (decide_eq_true c20) ?_;refine wp_skip (jJ ?_);refine jG ha rfl (decide_eq_true c20) ?_;replace hS := hS.pickN 4 [3, 0, 1, 2];obtain ⟨Xx1, hXx1, hS⟩ := openRd (c := c) (p := p) (b := b) hS;obtain ⟨hnca, hnpa, hnde, hnun, hnre, hnrp, hnbe⟩ := rd_ns (V := V) (c := c) (p := p) (b := b) (X := Xx1) hS;replace hS : Sat w0 w ((RwB V.ca c) :: (RwE V.pa p) :: (RwJ V.de Xx1.dep) :: (RwU V.un Xx1.uw) :: (jW (Xx1.uw.map unwN)) :: (RwR V.re Xx1.rcs) :: (RwJ V.rp Xx1.rep) :: (RwJ V.be b) :: (SX.blk b18 [iv y.1, iv y.2.1, iv y.2.2] 57) :: (RB b15 V.ca V.pa V.de V.un V.re V.rp V.be) :: (RB0 b1) :: []) := hS;obtain ⟨hX1, hX2, hX3, hX4, hX5, hX6, hX7, _⟩ := id hXx1
   try simp only [List.length_set, List.length_modify] at hnca hnpa hnde hnun hnre hnrp hnbe hX1 hX2 hX3 hX4 hX5 hX6 hX7
   refine xY 11 12 (hS.pickN 11 [8, 9, 10]) hS fun w hS => ?_;refine jK (k := 11) [(1, 29, ptr b15 0)] ha (.inr (hS.pickN 11 [8, 9, 10])) fun a ha => ?_;refine qW 2 (d := 30) (b := b15) (j := 0) ha (hS.pickN 11 [8, 9, 10]) (fun _ hw => hw.blk 1 rfl) rfl fun a ha => ?_;refine jK (k := 9) [(4, 32, ptr b18 0)] ha (.inr (hS.pickN 11 [8, 9, 10])) fun a ha => ?_;refine qW 5 (d := 33) (b := b18) (j := 0) ha (hS.pickN 11 [8, 9, 10]) (fun _ hw => hw.blk 0 rfl) rfl fun a ha => ?_;refine jK (k := 6) [(6, 34, .bool (decide (y.1 = 3))), (7, 35, .agg #[.bool (decide (y.1 = 3)), iv (-1)])] ha (.inr (hS.pickN 11 [8, 9, 10])) fun a ha => ?_;refine d_all (rs := [0, 8]) (by kernel_rfl) (by simp) (forall_mem_2 ?_ ?_)
   ·
    refine id (qJ 28 [] 149 (fun b => .slice (some ⟨b, 0, none⟩) 0 0) ha hS fun b21 w a hb22 hS ha => ?_);refine ⟨.inr (hS.pickN 12 [9, 10, 11]), ?_⟩;refine d_all (rs := [3, 8]) (by kernel_rfl) (by simp) (forall_mem_2 ?_ ?_)
    ·
     refine id (o_appRow0 (m := V.ca.n) (z := .agg #[.bool false, iv 0]) (sz := 2) (bytes := 16) (ys' := encB c) 0 1 ha (by decide) (zW (op := (Op.call { callee := (Callee.builtin Builtin.append), args := #[(Operand.tmp 28), (Operand.tmp 30)], argTypes := #[103, 103] })) (d := some 31) (ty := 103)) rfl rfl (by kernel_rfl) (by kernel_rfl) rfl (by decide) hS rfl rfl (Nat.le_refl _) (flat_one (fun _ => rfl) _) (by rw [encB_length]; (try simp only [List.length_take, List.length_set, List.length_modify]); omega) (by decide) (flat_all cellsB_len (hS.rowL (s := V.ca) (enc := cellsB) 1 cellsB_len (by decide) rfl)) fun s23 w a hS hn24 ha => ?_);refine ⟨.inr (hS.pickN 12 [9, 10, 11]), ?_⟩;refine jH 8 (qJ 36 [.bool (decide (y.1 = 3)), iv (-1)] 149 (fun b => .slice (some ⟨b, 0, none⟩) 1 1) ha hS fun b25 w a hb26 hS ha => ?_);refine ⟨.inr (hS.pickN 13 [10, 11, 12]), ?_⟩;refine jH 9 (o_ap 37 1 0 (encB (c ++ [(decide (y.1 = 3), (-1))])) ha hS rfl rfl (by rw [encB_length]; simp only [List.length_cons, List.length_nil, List.length_set, List.length_modify, List.length_append, List.length_take]; omega) (encB_snoc _ _ _) fun s30 w a hS hn31 ha => ?_);have hl_s30 : s30.n = _ := hS.rowL (s := s30) (enc := cellsB) 1 cellsB_len (by decide) rfl;simp only [List.length_append, List.length_cons, List.length_nil] at hl_s30;refine ⟨.inr (hS.pickN 13 [10, 11, 12]), ?_⟩;refine jK (k := 1) [(10, 38, ptr b15 0)] ha (.inr (hS.pickN 13 [10, 11, 12])) fun a ha => ?_;refine jH 11 (qH b15 0 (.slice s30.A s30.n s30.c) 11 ha hS rfl rfl fun w a hS ha => ?_);refine xJ (xX (in_n (in_n (jJ (jX [0, 1, 2] (jQ [(0, 17, iv (i : Int))] ha fun a ha => ?_))))));refine zJ 18 ((i : Int) + 1) ha fun a ha => ?_;refine jQ [(2, 4, iv ((i : Int) + 1))] ha fun a ha => ?_;refine jY (jJ ?_);replace hS := hS.pickN 13 [1, 3, 4, 5, 6, 7, 8, 9, 10, 11, 12];replace hS : Sat w0 w ((rdA ⟨s30, V.pa, V.de, V.un, V.re, V.rp, V.be⟩ (i + 1) ⟨(c ++ [(decide (y.1 = 3), (-1))]), p, b⟩) :: (SX.blk b18 [iv y.1, iv y.2.1, iv y.2.2] 57) :: (RB b15 s30 V.pa V.de V.un V.re V.rp V.be) :: (RB0 b1) :: []) := shutRd (V := ⟨s30, V.pa, V.de, V.un, V.re, V.rp, V.be⟩) ⟨Xx1.dep, Xx1.uw, Xx1.rcs, Xx1.rep⟩ (by refine ⟨?_, ?_, ?_, ?_, ?_, ?_, ?_, ul_up hXx1.kul⟩ <;> (try simp only [List.length_set, List.length_modify, List.length_append, List.length_take, List.length_cons, List.length_nil]) <;> omega) hS;replace hS := hS.pickN 4 [2, 3, 0];have hE : R4 (t.take (i + 1)) = ⟨c ++ [(decide (y.1 = 3), -1)], p, b⟩ := by rw [R4_next hy, hR, stepR, if_pos (.inl c20)]; try rfl
     replace hS : Sat w0 w ((RB b15 s30 V.pa V.de V.un V.re V.rp V.be) :: (RB0 b1) :: (rdA ⟨s30, V.pa, V.de, V.un, V.re, V.rp, V.be⟩ (i + 1) (R4 (t.take (i + 1)))) :: []) := by rw [hE]; exact hS
     exact ⟨_, by omega, i + 1, ⟨s30, V.pa, V.de, V.un, V.re, V.rp, V.be⟩, rfl, by omega, ha.keeps [0, 2, 3, 4] _ rfl, hS⟩
    refine id (qJ 36 [.bool (decide (y.1 = 3)), iv (-1)] 149 (fun b => .slice (some ⟨b, 0, none⟩) 1 1) ha hS fun b32 w a hb33 hS ha => ?_);refine ⟨.inr (hS.pickN 13 [10, 11, 12]), ?_⟩;refine jH 3 (o_appRow0 (m := V.ca.n) (z := .agg #[.bool false, iv 0]) (sz := 2) (bytes := 16) (ys' := encB c) 1 2 ha (by decide) (zW (op := (Op.call { callee := (Callee.builtin Builtin.append), args := #[(Operand.tmp 28), (Operand.tmp 30)], argTypes := #[103, 103] })) (d := some 31) (ty := 103)) rfl rfl (by kernel_rfl) (by kernel_rfl) rfl (by decide) hS rfl rfl (Nat.le_refl _) (flat_one (fun _ => rfl) _) (by rw [encB_length]; (try simp only [List.length_take, List.length_set, List.length_modify]); omega) (by decide) (flat_all cellsB_len (hS.rowL (s := V.ca) (enc := cellsB) 2 cellsB_len (by decide) rfl)) fun s34 w a hS hn35 ha => ?_);refine ⟨.inr (hS.pickN 13 [10, 11, 12]), ?_⟩;refine jH 9 (o_ap 37 1 0 (encB (c ++ [(decide (y.1 = 3), (-1))])) ha hS rfl rfl (by rw [encB_length]; simp only [List.length_cons, List.length_nil, List.length_set, List.length_modify, List.length_append, List.length_take]; omega) (encB_snoc _ _ _) fun s39 w a hS hn40 ha => ?_);have hl_s39 : s39.n = _ := hS.rowL (s := s39) (enc := cellsB) 1 cellsB_len (by decide) rfl;simp only [List.length_append, List.length_cons, List.length_nil] at hl_s39;refine ⟨.inr (hS.pickN 13 [10, 11, 12]), ?_⟩;refine jK (k := 1) [(10, 38, ptr b15 0)] ha (.inr (hS.pickN 13 [10, 11, 12])) fun a ha => ?_;refine jH 11 (qH b15 0 (.slice s39.A s39.n s39.c) 11 ha hS rfl rfl fun w a hS ha => ?_);refine xJ (xX (in_n (in_n (jJ (jX [0, 1, 2] (jQ [(0, 17, iv (i : Int))] ha fun a ha => ?_))))));refine zJ 18 ((i : Int) + 1) ha fun a ha => ?_;refine jQ [(2, 4, iv ((i : Int) + 1))] ha fun a ha => ?_;refine jY (jJ ?_);replace hS := hS.pickN 13 [1, 3, 4, 5, 6, 7, 8, 9, 10, 11, 12];replace hS : Sat w0 w ((rdA ⟨s39, V.pa, V.de, V.un, V.re, V.rp, V.be⟩ (i + 1) ⟨(c ++ [(decide (y.1 = 3), (-1))]), p, b⟩) :: (SX.blk b18 [iv y.1, iv y.2.1, iv y.2.2] 57) :: (RB b15 s39 V.pa V.de V.un V.re V.rp V.be) :: (RB0 b1) :: []) := shutRd (V := ⟨s39, V.pa, V.de, V.un, V.re, V.rp, V.be⟩) ⟨Xx1.dep, Xx1.uw, Xx1.rcs, Xx1.rep⟩ (by refine ⟨?_, ?_, ?_, ?_, ?_, ?_, ?_, ul_up hXx1.kul⟩ <;> (try simp only [List.length_set, List.length_modify, List.length_append, List.length_take, List.length_cons, List.length_nil]) <;> omega) hS;replace hS := hS.pickN 4 [2, 3, 0];have hE : R4 (t.take (i + 1)) = ⟨c ++ [(decide (y.1 = 3), -1)], p, b⟩ := by rw [R4_next hy, hR, stepR, if_pos (.inl c20)]; try rfl
    replace hS : Sat w0 w ((RB b15 s39 V.pa V.de V.un V.re V.rp V.be) :: (RB0 b1) :: (rdA ⟨s39, V.pa, V.de, V.un, V.re, V.rp, V.be⟩ (i + 1) (R4 (t.take (i + 1)))) :: []) := by rw [hE]; exact hS
    exact ⟨_, by omega, i + 1, ⟨s39, V.pa, V.de, V.un, V.re, V.rp, V.be⟩, rfl, by omega, ha.keeps [0, 2, 3, 4] _ rfl, hS⟩
   refine id (qJ 36 [.bool (decide (y.1 = 3)), iv (-1)] 149 (fun b => .slice (some ⟨b, 0, none⟩) 1 1) ha hS fun b41 w a hb42 hS ha => ?_);refine ⟨.inr (hS.pickN 12 [9, 10, 11]), ?_⟩;refine jH 0 (qJ 28 [] 149 (fun b => .slice (some ⟨b, 0, none⟩) 0 0) ha hS fun b43 w a hb44 hS ha => ?_);refine ⟨.inr (hS.pickN 13 [10, 11, 12]), ?_⟩;refine jH 3 (o_appRow0 (m := V.ca.n) (z := .agg #[.bool false, iv 0]) (sz := 2) (bytes := 16) (ys' := encB c) 0 2 ha (by decide) (zW (op := (Op.call { callee := (Callee.builtin Builtin.append), args := #[(Operand.tmp 28), (Operand.tmp 30)], argTypes := #[103, 103] })) (d := some 31) (ty := 103)) rfl rfl (by kernel_rfl) (by kernel_rfl) rfl (by decide) hS rfl rfl (Nat.le_refl _) (flat_one (fun _ => rfl) _) (by rw [encB_length]; (try simp only [List.length_take, List.length_set, List.length_modify]); omega) (by decide) (flat_all cellsB_len (hS.rowL (s := V.ca) (enc := cellsB) 2 cellsB_len (by decide) rfl)) fun s45 w a hS hn46 ha => ?_);refine ⟨.inr (hS.pickN 13 [10, 11, 12]), ?_⟩;refine jH 9 (o_ap 37 0 1 (encB (c ++ [(decide (y.1 = 3), (-1))])) ha hS rfl rfl (by rw [encB_length]; simp only [List.length_cons, List.length_nil, List.length_set, List.length_modify, List.length_append, List.length_take]; omega) (encB_snoc _ _ _) fun s50 w a hS hn51 ha => ?_);have hl_s50 : s50.n = _ := hS.rowL (s := s50) (enc := cellsB) 0 cellsB_len (by decide) rfl;simp only [List.length_append, List.length_cons, List.length_nil] at hl_s50;refine ⟨.inr (hS.pickN 13 [10, 11, 12]), ?_⟩;refine jK (k := 1) [(10, 38, ptr b15 0)] ha (.inr (hS.pickN 13 [10, 11, 12])) fun a ha => ?_;refine jH 11 (qH b15 0 (.slice s50.A s50.n s50.c) 11 ha hS rfl rfl fun w a hS ha => ?_);refine xJ (xX (in_n (in_n (jJ (jX [0, 1, 2] (jQ [(0, 17, iv (i : Int))] ha fun a ha => ?_))))));refine zJ 18 ((i : Int) + 1) ha fun a ha => ?_;refine jQ [(2, 4, iv ((i : Int) + 1))] ha fun a ha => ?_;refine jY (jJ ?_);replace hS := hS.pickN 13 [0, 3, 4, 5, 6, 7, 8, 9, 10, 11, 12];replace hS : Sat w0 w ((rdA ⟨s50, V.pa, V.de, V.un, V.re, V.rp, V.be⟩ (i + 1) ⟨(c ++ [(decide (y.1 = 3), (-1))]), p, b⟩) :: (SX.blk b18 [iv y.1, iv y.2.1, iv y.2.2] 57) :: (RB b15 s50 V.pa V.de V.un V.re V.rp V.be) :: (RB0 b1) :: []) := shutRd (V := ⟨s50, V.pa, V.de, V.un, V.re, V.rp, V.be⟩) ⟨Xx1.dep, Xx1.uw, Xx1.rcs, Xx1.rep⟩ (by refine ⟨?_, ?_, ?_, ?_, ?_, ?_, ?_, ul_up hXx1.kul⟩ <;> (try simp only [List.length_set, List.length_modify, List.length_append, List.length_take, List.length_cons, List.length_nil]) <;> omega) hS;replace hS := hS.pickN 4 [2, 3, 0];have hE : R4 (t.take (i + 1)) = ⟨c ++ [(decide (y.1 = 3), -1)], p, b⟩ := by rw [R4_next hy, hR, stepR, if_pos (.inl c20)]; try rfl
   replace hS : Sat w0 w ((RB b15 s50 V.pa V.de V.un V.re V.rp V.be) :: (RB0 b1) :: (rdA ⟨s50, V.pa, V.de, V.un, V.re, V.rp, V.be⟩ (i + 1) (R4 (t.take (i + 1)))) :: []) := by rw [hE]; exact hS
   exact ⟨_, by omega, i + 1, ⟨s50, V.pa, V.de, V.un, V.re, V.rp, V.be⟩, rfl, by omega, ha.keeps [0, 2, 3, 4] _ rfl, hS⟩
  refine jV ha rfl (decide_eq_false c20) ?_
  refine jX [0, 1] (jQ [(0, 27, .bool (decide (y.1 = 3))), (1, 25, .bool (decide (y.1 = 3)))] ha fun a ha => ?_)
  refine jY (jJ ?_)
  by_cases c52 : y.1 = 3
  ·
   refine jG ha rfl (decide_eq_true c52) ?_;replace hS := hS.pickN 4 [3, 0, 1, 2];obtain ⟨Xx2, hXx2, hS⟩ := openRd (c := c) (p := p) (b := b) hS;obtain ⟨hnca, hnpa, hnde, hnun, hnre, hnrp, hnbe⟩ := rd_ns (V := V) (c := c) (p := p) (b := b) (X := Xx2) hS;replace hS : Sat w0 w ((RwB V.ca c) :: (RwE V.pa p) :: (RwJ V.de Xx2.dep) :: (RwU V.un Xx2.uw) :: (jW (Xx2.uw.map unwN)) :: (RwR V.re Xx2.rcs) :: (RwJ V.rp Xx2.rep) :: (RwJ V.be b) :: (SX.blk b18 [iv y.1, iv y.2.1, iv y.2.2] 57) :: (RB b15 V.ca V.pa V.de V.un V.re V.rp V.be) :: (RB0 b1) :: []) := hS;obtain ⟨hX1, hX2, hX3, hX4, hX5, hX6, hX7, _⟩ := id hXx2
   try simp only [List.length_set, List.length_modify] at hnca hnpa hnde hnun hnre hnrp hnbe hX1 hX2 hX3 hX4 hX5 hX6 hX7
   refine xY 11 12 (hS.pickN 11 [8, 9, 10]) hS fun w hS => ?_;refine jK (k := 11) [(1, 29, ptr b15 0)] ha (.inr (hS.pickN 11 [8, 9, 10])) fun a ha => ?_;refine qW 2 (d := 30) (b := b15) (j := 0) ha (hS.pickN 11 [8, 9, 10]) (fun _ hw => hw.blk 1 rfl) rfl fun a ha => ?_;refine jK (k := 9) [(4, 32, ptr b18 0)] ha (.inr (hS.pickN 11 [8, 9, 10])) fun a ha => ?_;refine qW 5 (d := 33) (b := b18) (j := 0) ha (hS.pickN 11 [8, 9, 10]) (fun _ hw => hw.blk 0 rfl) rfl fun a ha => ?_;refine jK (k := 6) [(6, 34, .bool (decide (y.1 = 3))), (7, 35, .agg #[.bool (decide (y.1 = 3)), iv (-1)])] ha (.inr (hS.pickN 11 [8, 9, 10])) fun a ha => ?_;refine d_all (rs := [0, 8]) (by kernel_rfl) (by simp) (forall_mem_2 ?_ ?_)
   ·
    refine id (qJ 28 [] 149 (fun b => .slice (some ⟨b, 0, none⟩) 0 0) ha hS fun b53 w a hb54 hS ha => ?_);refine ⟨.inr (hS.pickN 12 [9, 10, 11]), ?_⟩;refine d_all (rs := [3, 8]) (by kernel_rfl) (by simp) (forall_mem_2 ?_ ?_)
    ·
     refine id (o_appRow0 (m := V.ca.n) (z := .agg #[.bool false, iv 0]) (sz := 2) (bytes := 16) (ys' := encB c) 0 1 ha (by decide) (zW (op := (Op.call { callee := (Callee.builtin Builtin.append), args := #[(Operand.tmp 28), (Operand.tmp 30)], argTypes := #[103, 103] })) (d := some 31) (ty := 103)) rfl rfl (by kernel_rfl) (by kernel_rfl) rfl (by decide) hS rfl rfl (Nat.le_refl _) (flat_one (fun _ => rfl) _) (by rw [encB_length]; (try simp only [List.length_take, List.length_set, List.length_modify]); omega) (by decide) (flat_all cellsB_len (hS.rowL (s := V.ca) (enc := cellsB) 1 cellsB_len (by decide) rfl)) fun s55 w a hS hn56 ha => ?_);refine ⟨.inr (hS.pickN 12 [9, 10, 11]), ?_⟩;refine jH 8 (qJ 36 [.bool (decide (y.1 = 3)), iv (-1)] 149 (fun b => .slice (some ⟨b, 0, none⟩) 1 1) ha hS fun b57 w a hb58 hS ha => ?_);refine ⟨.inr (hS.pickN 13 [10, 11, 12]), ?_⟩;refine jH 9 (o_ap 37 1 0 (encB (c ++ [(decide (y.1 = 3), (-1))])) ha hS rfl rfl (by rw [encB_length]; simp only [List.length_cons, List.length_nil, List.length_set, List.length_modify, List.length_append, List.length_take]; omega) (encB_snoc _ _ _) fun s62 w a hS hn63 ha => ?_);have hl_s62 : s62.n = _ := hS.rowL (s := s62) (enc := cellsB) 1 cellsB_len (by decide) rfl;simp only [List.length_append, List.length_cons, List.length_nil] at hl_s62;refine ⟨.inr (hS.pickN 13 [10, 11, 12]), ?_⟩;refine jK (k := 1) [(10, 38, ptr b15 0)] ha (.inr (hS.pickN 13 [10, 11, 12])) fun a ha => ?_;refine jH 11 (qH b15 0 (.slice s62.A s62.n s62.c) 11 ha hS rfl rfl fun w a hS ha => ?_);refine xJ (xX (in_n (in_n (jJ (jX [0, 1, 2] (jQ [(0, 17, iv (i : Int))] ha fun a ha => ?_))))));refine zJ 18 ((i : Int) + 1) ha fun a ha => ?_;refine jQ [(2, 4, iv ((i : Int) + 1))] ha fun a ha => ?_;refine jY (jJ ?_);replace hS := hS.pickN 13 [1, 3, 4, 5, 6, 7, 8, 9, 10, 11, 12];replace hS : Sat w0 w ((rdA ⟨s62, V.pa, V.de, V.un, V.re, V.rp, V.be⟩ (i + 1) ⟨(c ++ [(decide (y.1 = 3), (-1))]), p, b⟩) :: (SX.blk b18 [iv y.1, iv y.2.1, iv y.2.2] 57) :: (RB b15 s62 V.pa V.de V.un V.re V.rp V.be) :: (RB0 b1) :: []) := shutRd (V := ⟨s62, V.pa, V.de, V.un, V.re, V.rp, V.be⟩) ⟨Xx2.dep, Xx2.uw, Xx2.rcs, Xx2.rep⟩ (by refine ⟨?_, ?_, ?_, ?_, ?_, ?_, ?_, ul_up hXx2.kul⟩ <;> (try simp only [List.length_set, List.length_modify, List.length_append, List.length_take, List.length_cons, List.length_nil]) <;> omega) hS;replace hS := hS.pickN 4 [2, 3, 0];have hE : R4 (t.take (i + 1)) = ⟨c ++ [(decide (y.1 = 3), -1)], p, b⟩ := by rw [R4_next hy, hR, stepR, if_pos (.inr c52)]; try rfl
     replace hS : Sat w0 w ((RB b15 s62 V.pa V.de V.un V.re V.rp V.be) :: (RB0 b1) :: (rdA ⟨s62, V.pa, V.de, V.un, V.re, V.rp, V.be⟩ (i + 1) (R4 (t.take (i + 1)))) :: []) := by rw [hE]; exact hS
     exact ⟨_, by omega, i + 1, ⟨s62, V.pa, V.de, V.un, V.re, V.rp, V.be⟩, rfl, by omega, ha.keeps [0, 2, 3, 4] _ rfl, hS⟩
    refine id (qJ 36 [.bool (decide (y.1 = 3)), iv (-1)] 149 (fun b => .slice (some ⟨b, 0, none⟩) 1 1) ha hS fun b64 w a hb65 hS ha => ?_);refine ⟨.inr (hS.pickN 13 [10, 11, 12]), ?_⟩;refine jH 3 (o_appRow0 (m := V.ca.n) (z := .agg #[.bool false, iv 0]) (sz := 2) (bytes := 16) (ys' := encB c) 1 2 ha (by decide) (zW (op := (Op.call { callee := (Callee.builtin Builtin.append), args := #[(Operand.tmp 28), (Operand.tmp 30)], argTypes := #[103, 103] })) (d := some 31) (ty := 103)) rfl rfl (by kernel_rfl) (by kernel_rfl) rfl (by decide) hS rfl rfl (Nat.le_refl _) (flat_one (fun _ => rfl) _) (by rw [encB_length]; (try simp only [List.length_take, List.length_set, List.length_modify]); omega) (by decide) (flat_all cellsB_len (hS.rowL (s := V.ca) (enc := cellsB) 2 cellsB_len (by decide) rfl)) fun s66 w a hS hn67 ha => ?_);refine ⟨.inr (hS.pickN 13 [10, 11, 12]), ?_⟩;refine jH 9 (o_ap 37 1 0 (encB (c ++ [(decide (y.1 = 3), (-1))])) ha hS rfl rfl (by rw [encB_length]; simp only [List.length_cons, List.length_nil, List.length_set, List.length_modify, List.length_append, List.length_take]; omega) (encB_snoc _ _ _) fun s71 w a hS hn72 ha => ?_);have hl_s71 : s71.n = _ := hS.rowL (s := s71) (enc := cellsB) 1 cellsB_len (by decide) rfl;simp only [List.length_append, List.length_cons, List.length_nil] at hl_s71;refine ⟨.inr (hS.pickN 13 [10, 11, 12]), ?_⟩;refine jK (k := 1) [(10, 38, ptr b15 0)] ha (.inr (hS.pickN 13 [10, 11, 12])) fun a ha => ?_;refine jH 11 (qH b15 0 (.slice s71.A s71.n s71.c) 11 ha hS rfl rfl fun w a hS ha => ?_);refine xJ (xX (in_n (in_n (jJ (jX [0, 1, 2] (jQ [(0, 17, iv (i : Int))] ha fun a ha => ?_))))));refine zJ 18 ((i : Int) + 1) ha fun a ha => ?_;refine jQ [(2, 4, iv ((i : Int) + 1))] ha fun a ha => ?_;refine jY (jJ ?_);replace hS := hS.pickN 13 [1, 3, 4, 5, 6, 7, 8, 9, 10, 11, 12];replace hS : Sat w0 w ((rdA ⟨s71, V.pa, V.de, V.un, V.re, V.rp, V.be⟩ (i + 1) ⟨(c ++ [(decide (y.1 = 3), (-1))]), p, b⟩) :: (SX.blk b18 [iv y.1, iv y.2.1, iv y.2.2] 57) :: (RB b15 s71 V.pa V.de V.un V.re V.rp V.be) :: (RB0 b1) :: []) := shutRd (V := ⟨s71, V.pa, V.de, V.un, V.re, V.rp, V.be⟩) ⟨Xx2.dep, Xx2.uw, Xx2.rcs, Xx2.rep⟩ (by refine ⟨?_, ?_, ?_, ?_, ?_, ?_, ?_, ul_up hXx2.kul⟩ <;> (try simp only [List.length_set, List.length_modify, List.length_append, List.length_take, List.length_cons, List.length_nil]) <;> omega) hS;replace hS := hS.pickN 4 [2, 3, 0];have hE : R4 (t.take (i + 1)) = ⟨c ++ [(decide (y.1 = 3), -1)], p, b⟩ := by rw [R4_next hy, hR, stepR, if_pos (.inr c52)]; try rfl
    replace hS : Sat w0 w ((RB b15 s71 V.pa V.de V.un V.re V.rp V.be) :: (RB0 b1) :: (rdA ⟨s71, V.pa, V.de, V.un, V.re, V.rp, V.be⟩ (i + 1) (R4 (t.take (i + 1)))) :: []) := by rw [hE]; exact hS
    exact ⟨_, by omega, i + 1, ⟨s71, V.pa, V.de, V.un, V.re, V.rp, V.be⟩, rfl, by omega, ha.keeps [0, 2, 3, 4] _ rfl, hS⟩
   refine id (qJ 36 [.bool (decide (y.1 = 3)), iv (-1)] 149 (fun b => .slice (some ⟨b, 0, none⟩) 1 1) ha hS fun b73 w a hb74 hS ha => ?_);refine ⟨.inr (hS.pickN 12 [9, 10, 11]), ?_⟩;refine jH 0 (qJ 28 [] 149 (fun b => .slice (some ⟨b, 0, none⟩) 0 0) ha hS fun b75 w a hb76 hS ha => ?_);refine ⟨.inr (hS.pickN 13 [10, 11, 12]), ?_⟩;refine jH 3 (o_appRow0 (m := V.ca.n) (z := .agg #[.bool false, iv 0]) (sz := 2) (bytes := 16) (ys' := encB c) 0 2 ha (by decide) (zW (op := (Op.call { callee := (Callee.builtin Builtin.append), args := #[(Operand.tmp 28), (Operand.tmp 30)], argTypes := #[103, 103] })) (d := some 31) (ty := 103)) rfl rfl (by kernel_rfl) (by kernel_rfl) rfl (by decide) hS rfl rfl (Nat.le_refl _) (flat_one (fun _ => rfl) _) (by rw [encB_length]; (try simp only [List.length_take, List.length_set, List.length_modify]); omega) (by decide) (flat_all cellsB_len (hS.rowL (s := V.ca) (enc := cellsB) 2 cellsB_len (by decide) rfl)) fun s77 w a hS hn78 ha => ?_);refine ⟨.inr (hS.pickN 13 [10, 11, 12]), ?_⟩;refine jH 9 (o_ap 37 0 1 (encB (c ++ [(decide (y.1 = 3), (-1))])) ha hS rfl rfl (by rw [encB_length]; simp only [List.length_cons, List.length_nil, List.length_set, List.length_modify, List.length_append, List.length_take]; omega) (encB_snoc _ _ _) fun s82 w a hS hn83 ha => ?_);have hl_s82 : s82.n = _ := hS.rowL (s := s82) (enc := cellsB) 0 cellsB_len (by decide) rfl;simp only [List.length_append, List.length_cons, List.length_nil] at hl_s82;refine ⟨.inr (hS.pickN 13 [10, 11, 12]), ?_⟩;refine jK (k := 1) [(10, 38, ptr b15 0)] ha (.inr (hS.pickN 13 [10, 11, 12])) fun a ha => ?_;refine jH 11 (qH b15 0 (.slice s82.A s82.n s82.c) 11 ha hS rfl rfl fun w a hS ha => ?_);refine xJ (xX (in_n (in_n (jJ (jX [0, 1, 2] (jQ [(0, 17, iv (i : Int))] ha fun a ha => ?_))))));refine zJ 18 ((i : Int) + 1) ha fun a ha => ?_;refine jQ [(2, 4, iv ((i : Int) + 1))] ha fun a ha => ?_;refine jY (jJ ?_);replace hS := hS.pickN 13 [0, 3, 4, 5, 6, 7, 8, 9, 10, 11, 12];replace hS : Sat w0 w ((rdA ⟨s82, V.pa, V.de, V.un, V.re, V.rp, V.be⟩ (i + 1) ⟨(c ++ [(decide (y.1 = 3), (-1))]), p, b⟩) :: (SX.blk b18 [iv y.1, iv y.2.1, iv y.2.2] 57) :: (RB b15 s82 V.pa V.de V.un V.re V.rp V.be) :: (RB0 b1) :: []) := shutRd (V := ⟨s82, V.pa, V.de, V.un, V.re, V.rp, V.be⟩) ⟨Xx2.dep, Xx2.uw, Xx2.rcs, Xx2.rep⟩ (by refine ⟨?_, ?_, ?_, ?_, ?_, ?_, ?_, ul_up hXx2.kul⟩ <;> (try simp only [List.length_set, List.length_modify, List.length_append, List.length_take, List.length_cons, List.length_nil]) <;> omega) hS;replace hS := hS.pickN 4 [2, 3, 0];have hE : R4 (t.take (i + 1)) = ⟨c ++ [(decide (y.1 = 3), -1)], p, b⟩ := by rw [R4_next hy, hR, stepR, if_pos (.inr c52)]; try rfl
   replace hS : Sat w0 w ((RB b15 s82 V.pa V.de V.un V.re V.rp V.be) :: (RB0 b1) :: (rdA ⟨s82, V.pa, V.de, V.un, V.re, V.rp, V.be⟩ (i + 1) (R4 (t.take (i + 1)))) :: []) := by rw [hE]; exact hS
   exact ⟨_, by omega, i + 1, ⟨s82, V.pa, V.de, V.un, V.re, V.rp, V.be⟩, rfl, by omega, ha.keeps [0, 2, 3, 4] _ rfl, hS⟩
  refine jV ha rfl (decide_eq_false c52) ?_
  refine wp_seq (jX [0, 1] (jQ [(0, 40, .bool (decide (y.1 = 5))), (1, 39, .bool (decide (y.1 = 5)))] ha fun a ha => ?_))
  refine jY (jJ ?_)
  by_cases c84 : y.1 = 5
  ·
   refine jG ha rfl (decide_eq_true c84) ?_;refine jX [0, 1, 2, 3] (xG 41 ha (hS.blk 1 rfl) fun a ha => ?_);refine xG 42 ha (hS.blk 0 rfl) fun a ha => ?_;replace hS := hS.pickN 4 [3, 0, 1, 2];have h1 := hk9.p c84
   dsimp only at h1
   refine jZ (qG 43 (vs := [.agg #[.slice V.ca.A V.ca.n V.ca.c, .slice V.pa.A V.pa.n V.pa.c, .slice V.de.A V.de.n V.de.c, .slice V.un.A V.un.n V.un.c, .slice V.re.A V.re.n V.re.c, .slice V.rp.A V.rp.n V.rp.c, .slice V.be.A V.be.n V.be.c], .agg #[iv y.1, iv y.2.1, iv y.2.2]]) ha (l4Panic_sat (V := V) (n := i) (c := c) (p := p) (b := b) (ek := y.1) (ef := y.2.1) (ev := y.2.2) hS (by omega) h1) fun v85 w a hp86 ha => ?_);obtain ⟨V1, rfl, hS⟩ := hp86;refine jZ (o_sa 2 ha (qU (t := 107) (x := 3) (y := 43)) hS fun w a hS ha => ?_);refine jY (in_n (in_n (jJ (jX [0, 1, 2] (jQ [(0, 17, iv (i : Int))] ha fun a ha => ?_)))));refine zJ 18 ((i : Int) + 1) ha fun a ha => ?_;refine jQ [(2, 4, iv ((i : Int) + 1))] ha fun a ha => ?_;refine jY (jJ ?_);replace hS := hS.pickN 4 [2, 3, 0];have hE : R4 (t.take (i + 1)) = SX.panR ⟨c, p, b⟩ y.2.1 y.2.2 := by rw [R4_next hy, hR, stepR, if_neg (by omega), if_pos c84]; try rfl
   replace hS : Sat w0 w ((RB b15 V1.ca V1.pa V1.de V1.un V1.re V1.rp V1.be) :: (RB0 b1) :: (rdA V1 (i + 1) (R4 (t.take (i + 1)))) :: []) := by rw [hE]; exact hS
   exact ⟨_, by omega, i + 1, V1, rfl, by omega, ha.keeps [0, 2, 3, 4] _ rfl, hS⟩
  refine jV ha rfl (decide_eq_false c84) ?_
  refine wp_seq (jX [0, 1] (jQ [(0, 45, .bool (decide (y.1 = 6))), (1, 44, .bool (decide (y.1 = 6)))] ha fun a ha => ?_))
  refine jY (jJ ?_)
  by_cases c87 : y.1 = 6
  ·
   refine jG ha rfl (decide_eq_true c87) ?_;refine jX [0, 1, 2, 3] (xG 46 ha (hS.blk 1 rfl) fun a ha => ?_);refine xG 47 ha (hS.blk 0 rfl) fun a ha => ?_;replace hS := hS.pickN 4 [3, 0, 1, 2];have h1 := hk9.r_ c87;obtain ⟨h1, ho1, ho2⟩ := h1
   dsimp only at h1
   obtain ⟨x, hx⟩ : ∃ x, c[c.length - 2]? = some x := ⟨_, List.getElem?_eq_getElem (by omega)⟩;rw [callAt_of hx] at ho1 ho2;refine jZ (qG 48 (vs := [.agg #[.slice V.ca.A V.ca.n V.ca.c, .slice V.pa.A V.pa.n V.pa.c, .slice V.de.A V.de.n V.de.c, .slice V.un.A V.un.n V.un.c, .slice V.re.A V.re.n V.re.c, .slice V.rp.A V.rp.n V.rp.c, .slice V.be.A V.be.n V.be.c], .agg #[iv y.1, iv y.2.1, iv y.2.2]]) ha (l4Recover_sat (V := V) (n := i) (c := c) (p := p) (b := b) (ek := y.1) (ef := y.2.1) (ev := y.2.2) hS (by omega) h1 hx ⟨ho1, ho2⟩) fun v88 w a hp89 ha => ?_);obtain ⟨V2, rfl, hS⟩ := hp89;refine jZ (o_sa 2 ha (qU (t := 107) (x := 3) (y := 48)) hS fun w a hS ha => ?_);refine jY (in_n (in_n (jJ (jX [0, 1, 2] (jQ [(0, 17, iv (i : Int))] ha fun a ha => ?_)))));refine zJ 18 ((i : Int) + 1) ha fun a ha => ?_;refine jQ [(2, 4, iv ((i : Int) + 1))] ha fun a ha => ?_;refine jY (jJ ?_);replace hS := hS.pickN 4 [2, 3, 0];have hE : R4 (t.take (i + 1)) = SX.recR ⟨c, p, b⟩ := by rw [R4_next hy, hR, stepR, if_neg (by omega), if_neg (by omega), if_pos c87]; try rfl
   replace hS : Sat w0 w ((RB b15 V2.ca V2.pa V2.de V2.un V2.re V2.rp V2.be) :: (RB0 b1) :: (rdA V2 (i + 1) (R4 (t.take (i + 1)))) :: []) := by rw [hE]; exact hS
   exact ⟨_, by omega, i + 1, V2, rfl, by omega, ha.keeps [0, 2, 3, 4] _ rfl, hS⟩
  refine jV ha rfl (decide_eq_false c87) ?_
  refine wp_seq (jX [0, 1] (jQ [(0, 50, .bool (decide (y.1 = 7))), (1, 49, .bool (decide (y.1 = 7)))] ha fun a ha => ?_))
  refine jY (jJ ?_)
  by_cases c90 : y.1 = 7
  ·
   refine jG ha rfl (decide_eq_true c90) ?_;replace hS := hS.pickN 4 [3, 0, 1, 2];obtain ⟨Xx3, hXx3, hS⟩ := openRd (c := c) (p := p) (b := b) hS;obtain ⟨hnca, hnpa, hnde, hnun, hnre, hnrp, hnbe⟩ := rd_ns (V := V) (c := c) (p := p) (b := b) (X := Xx3) hS;replace hS : Sat w0 w ((RwB V.ca c) :: (RwE V.pa p) :: (RwJ V.de Xx3.dep) :: (RwU V.un Xx3.uw) :: (jW (Xx3.uw.map unwN)) :: (RwR V.re Xx3.rcs) :: (RwJ V.rp Xx3.rep) :: (RwJ V.be b) :: (SX.blk b18 [iv y.1, iv y.2.1, iv y.2.2] 57) :: (RB b15 V.ca V.pa V.de V.un V.re V.rp V.be) :: (RB0 b1) :: []) := hS;obtain ⟨hX1, hX2, hX3, hX4, hX5, hX6, hX7, _⟩ := id hXx3
   try simp only [List.length_set, List.length_modify] at hnca hnpa hnde hnun hnre hnrp hnbe hX1 hX2 hX3 hX4 hX5 hX6 hX7
   have hk7 := hk9.t;have hk8 := hk7 c90
   dsimp only at hk8
   refine jX [0, 1, 2, 3, 4, 5, 6, 7, 8] (jQ [(0, 51, ptr b15 0)] ha fun a ha => ?_);refine jU (d := 52) (b := b15) (j := 0) ha (hS.blk 9 rfl) rfl fun a ha => ?_;refine jQ [(2, 53, ptr b15 0)] ha fun a ha => ?_;refine jU (d := 54) (b := b15) (j := 0) ha (hS.blk 9 rfl) rfl fun a ha => ?_;refine jQ [(4, 55, iv (V.ca.n : Int))] ha fun a ha => ?_;refine zJ 56 ((V.ca.n : Int) - 1) ha fun a ha => ?_;refine xU (.slice V.ca.A (V.ca.n - 1) V.ca.c) ha (v_takeZ (el := 149) (j := V.ca.n - 1) ha (zW (op := (Op.slice 103 (Operand.tmp 52) none (some (Operand.tmp 56)) none)) (d := some 57) (ty := 103)) rfl rfl (by kernel_rfl) (by kernel_rfl) (by omega) (Nat.sub_le _ _) (row_cap hS 0 rfl)) fun a ha => ?_;refine jQ [(7, 58, ptr b15 0)] ha fun a ha => ?_;refine jZ (qH b15 0 (.slice V.ca.A (V.ca.n - 1) V.ca.c) 9 ha hS rfl rfl fun w a hS ha => ?_);refine jY (in_n (in_n (jJ (jX [0, 1, 2] (jQ [(0, 17, iv (i : Int))] ha fun a ha => ?_)))));refine zJ 18 ((i : Int) + 1) ha fun a ha => ?_;refine jQ [(2, 4, iv ((i : Int) + 1))] ha fun a ha => ?_;refine jY (jJ ?_);replace hS : Sat w0 w ((SX.row (.slice V.ca.A (V.ca.n - 1) V.ca.c) 149 2 (encB (c.take (c.length - 1)))) :: (RwE V.pa p) :: (RwJ V.de Xx3.dep) :: (RwU V.un Xx3.uw) :: (jW (Xx3.uw.map unwN)) :: (RwR V.re Xx3.rcs) :: (RwJ V.rp Xx3.rep) :: (RwJ V.be b) :: (SX.blk b18 [iv y.1, iv y.2.1, iv y.2.2] 57) :: (SX.blk b15 [.slice V.ca.A (V.ca.n - 1) V.ca.c, .slice V.pa.A V.pa.n V.pa.c, .slice V.de.A V.de.n V.de.c, .slice V.un.A V.un.n V.un.c, .slice V.re.A V.re.n V.re.c, .slice V.rp.A V.rp.n V.rp.c, .slice V.be.A V.be.n V.be.c] 107) :: (RB0 b1) :: []) := by have hh := Sat.rowTake hS 0 rfl (V.ca.n - 1) (Nat.sub_le _ _); rw [show (encB c).take ((V.ca.n - 1) * 2) = encB (c.take (c.length - 1)) by rw [show V.ca.n - 1 = c.length - 1 by omega]; exact flat_take cellsB_len _ _] at hh; exact hh
   obtain ⟨s_1, hs_1⟩ : ∃ z : Sl, z = ⟨V.ca.A, (V.ca.n - 1), V.ca.c⟩ := ⟨_, rfl⟩;replace hS : Sat w0 w ((RwB s_1 (c.take (c.length - 1))) :: (RwE V.pa p) :: (RwJ V.de Xx3.dep) :: (RwU V.un Xx3.uw) :: (jW (Xx3.uw.map unwN)) :: (RwR V.re Xx3.rcs) :: (RwJ V.rp Xx3.rep) :: (RwJ V.be b) :: (SX.blk b18 [iv y.1, iv y.2.1, iv y.2.2] 57) :: (RB b15 s_1 V.pa V.de V.un V.re V.rp V.be) :: (RB0 b1) :: []) := by rw [hs_1]; exact hS
   replace ha : Has 69 [(0, .slice s.A s.n s.c), (2, ptr b1 0), (3, ptr b15 0), (13, iv (i : Int)), (14, .slice s.A s.n s.c), (15, iv (s.n : Int)), (16, .bool (decide ((i : Int) < (s.n : Int)))), (19, .slice s.A s.n s.c), (20, iv (i : Int)), (21, .pointer (some ⟨bk s, of_ s + i * 3, none⟩)), (22, .agg #[iv y.1, iv y.2.1, iv y.2.2]), (5, ptr b18 0), (23, ptr b18 0), (24, iv y.1), (26, .bool (decide (y.1 = 1))), (27, .bool (decide (y.1 = 3))), (25, .bool (decide (y.1 = 3))), (40, .bool (decide (y.1 = 5))), (39, .bool (decide (y.1 = 5))), (45, .bool (decide (y.1 = 6))), (44, .bool (decide (y.1 = 6))), (50, .bool (decide (y.1 = 7))), (49, .bool (decide (y.1 = 7))), (51, ptr b15 0), (52, .slice V.ca.A V.ca.n V.ca.c), (53, ptr b15 0), (54, .slice V.ca.A V.ca.n V.ca.c), (55, iv (V.ca.n : Int)), (56, iv ((V.ca.n : Int) - 1)), (57, .slice s_1.A s_1.n s_1.c), (58, ptr b15 0), (17, iv (i : Int)), (18, iv ((i : Int) + 1)), (4, iv ((i : Int) + 1))] a := by rw [hs_1]; exact ha.keeps [0, 2, 3, 13, 14, 15, 16, 19, 20, 21, 22, 5, 23, 24, 26, 27, 25, 40, 39, 45, 44, 50, 49, 51, 52, 53, 54, 55, 56, 57, 58, 17, 18, 4] _ rfl
   replace hS : Sat w0 w ((RwB s_1 (c.take (c.length - 1))) :: (RwE V.pa p) :: (RwJ V.de Xx3.dep) :: (RwU V.un Xx3.uw) :: (jW (Xx3.uw.map unwN)) :: (RwR V.re Xx3.rcs) :: (RwJ V.rp Xx3.rep) :: (RwJ V.be b) :: (SX.blk b18 [iv y.1, iv y.2.1, iv y.2.2] 57) :: (RB b15 s_1 V.pa V.de V.un V.re V.rp V.be) :: (RB0 b1) :: []) := hS;replace hS : Sat w0 w ((rdA ⟨s_1, V.pa, V.de, V.un, V.re, V.rp, V.be⟩ (i + 1) ⟨(c.take (c.length - 1)), p, b⟩) :: (SX.blk b18 [iv y.1, iv y.2.1, iv y.2.2] 57) :: (RB b15 s_1 V.pa V.de V.un V.re V.rp V.be) :: (RB0 b1) :: []) := shutRd (V := ⟨s_1, V.pa, V.de, V.un, V.re, V.rp, V.be⟩) ⟨Xx3.dep, Xx3.uw, Xx3.rcs, Xx3.rep⟩ (by refine ⟨?_, ?_, ?_, ?_, ?_, ?_, ?_, ul_up hXx3.kul⟩ <;> (try simp only [List.length_set, List.length_modify, List.length_append, List.length_take, List.length_cons, List.length_nil]) <;> omega) hS;replace hS := hS.pickN 4 [2, 3, 0];have hE : R4 (t.take (i + 1)) = ⟨c.take (c.length - 1), p, b⟩ := by rw [R4_next hy, hR, stepR, if_neg (by omega), if_neg (by omega), if_neg (by omega), if_pos c90]; try rfl
   replace hS : Sat w0 w ((RB b15 s_1 V.pa V.de V.un V.re V.rp V.be) :: (RB0 b1) :: (rdA ⟨s_1, V.pa, V.de, V.un, V.re, V.rp, V.be⟩ (i + 1) (R4 (t.take (i + 1)))) :: []) := by rw [hE]; exact hS
   exact ⟨_, by omega, i + 1, ⟨s_1, V.pa, V.de, V.un, V.re, V.rp, V.be⟩, rfl, by omega, ha.keeps [0, 2, 3, 4] _ rfl, hS⟩
  refine jV ha rfl (decide_eq_false c90) ?_
  refine wp_seq (jX [0, 1] (jQ [(0, 60, .bool (decide (y.1 = 8))), (1, 59, .bool (decide (y.1 = 8)))] ha fun a ha => ?_))
  refine jY (jJ ?_)
  by_cases c91 : y.1 = 8
  ·
   refine jG ha rfl (decide_eq_true c91) ?_;refine jX [0, 1, 2, 3] (xG 61 ha (hS.blk 1 rfl) fun a ha => ?_);refine xG 62 ha (hS.blk 0 rfl) fun a ha => ?_;replace hS := hS.pickN 4 [3, 0, 1, 2];have h1 := hk9.u c91;obtain ⟨h1, ho1, ho2, ho3⟩ := h1
   dsimp only at h1 ho3
   obtain ⟨x, hx⟩ : ∃ x, c[c.length - 1]? = some x := ⟨_, List.getElem?_eq_getElem (by omega)⟩;rw [callAt_of hx] at ho1 ho2;have hyp : ∀ y, (c.take (c.length - 1))[(c.take (c.length - 1)).length - 1]? = some y → 2 ≤ c.length → y.2 < (p.length : Int) := fun y hy h2 => by have h3 := ho3 h2; rw [show SX.popR ⟨c, p, b⟩ = ⟨c.take (c.length - 1), p, b⟩ from rfl, callAt_of hy] at h3; exact h3
   refine jZ (qG 63 (vs := [.agg #[.slice V.ca.A V.ca.n V.ca.c, .slice V.pa.A V.pa.n V.pa.c, .slice V.de.A V.de.n V.de.c, .slice V.un.A V.un.n V.un.c, .slice V.re.A V.re.n V.re.c, .slice V.rp.A V.rp.n V.rp.c, .slice V.be.A V.be.n V.be.c], .agg #[iv y.1, iv y.2.1, iv y.2.2]]) ha (l4Unwind_sat (V := V) (n := i) (c := c) (p := p) (b := b) (ek := y.1) (ef := y.2.1) (ev := y.2.2) hS (by omega) h1 hx ⟨ho1, ho2⟩ hyp) fun v92 w a hp93 ha => ?_);obtain ⟨V3, rfl, hS⟩ := hp93;refine jZ (o_sa 2 ha (qU (t := 107) (x := 3) (y := 63)) hS fun w a hS ha => ?_);refine jY (in_n (in_n (jJ (jX [0, 1, 2] (jQ [(0, 17, iv (i : Int))] ha fun a ha => ?_)))));refine zJ 18 ((i : Int) + 1) ha fun a ha => ?_;refine jQ [(2, 4, iv ((i : Int) + 1))] ha fun a ha => ?_;refine jY (jJ ?_);replace hS := hS.pickN 4 [2, 3, 0];have hE : R4 (t.take (i + 1)) = SX.unwR ⟨c, p, b⟩ := by rw [R4_next hy, hR, stepR, if_neg (by omega), if_neg (by omega), if_neg (by omega), if_neg (by omega), if_pos c91]; try rfl
   replace hS : Sat w0 w ((RB b15 V3.ca V3.pa V3.de V3.un V3.re V3.rp V3.be) :: (RB0 b1) :: (rdA V3 (i + 1) (R4 (t.take (i + 1)))) :: []) := by rw [hE]; exact hS
   exact ⟨_, by omega, i + 1, V3, rfl, by omega, ha.keeps [0, 2, 3, 4] _ rfl, hS⟩
  refine jV ha rfl (decide_eq_false c91) ?_
  refine wp_seq (jX [0, 1] (jQ [(0, 65, .bool (decide (y.1 = 9))), (1, 64, .bool (decide (y.1 = 9)))] ha fun a ha => ?_))
  refine jY (jJ ?_)
  by_cases c94 : y.1 = 9
  ·
   refine jG ha rfl (decide_eq_true c94) ?_;refine jX [0, 1, 2] (xG 66 ha (hS.blk 1 rfl) fun a ha => ?_);replace hS := hS.pickN 4 [3, 0, 1, 2];have h1 := hk9.x c94;obtain ⟨h1, ho3⟩ := h1
   dsimp only at h1 ho3
   obtain ⟨x, hx⟩ : ∃ x, c[c.length - 1]? = some x := ⟨_, List.getElem?_eq_getElem (by omega)⟩;have hyp : ∀ y, (c.take (c.length - 1))[(c.take (c.length - 1)).length - 1]? = some y → 2 ≤ c.length → y.2 < (p.length : Int) := fun y hy h2 => by have h3 := ho3 h2; rw [show SX.popR ⟨c, p, b⟩ = ⟨c.take (c.length - 1), p, b⟩ from rfl, callAt_of hy] at h3; exact h3
   refine jZ (qG 67 (vs := [.agg #[.slice V.ca.A V.ca.n V.ca.c, .slice V.pa.A V.pa.n V.pa.c, .slice V.de.A V.de.n V.de.c, .slice V.un.A V.un.n V.un.c, .slice V.re.A V.re.n V.re.c, .slice V.rp.A V.rp.n V.rp.c, .slice V.be.A V.be.n V.be.c]]) ha (l4Exit_sat (V := V) (n := i) (c := c) (p := p) (b := b) hS (by omega) h1 hx hyp) fun v95 w a hp96 ha => ?_);obtain ⟨V4, rfl, hS⟩ := hp96;refine jZ (o_sa 2 ha (qU (t := 107) (x := 3) (y := 67)) hS fun w a hS ha => ?_);refine jY (in_n (in_n (jJ (jX [0, 1, 2] (jQ [(0, 17, iv (i : Int))] ha fun a ha => ?_)))));refine zJ 18 ((i : Int) + 1) ha fun a ha => ?_;refine jQ [(2, 4, iv ((i : Int) + 1))] ha fun a ha => ?_;refine jY (jJ ?_);replace hS : Sat w0 w ((rdA V4 i (SX.exR ⟨c, p, b⟩)) :: (SX.blk b18 [iv y.1, iv y.2.1, iv y.2.2] 57) :: (RB b15 V4.ca V4.pa V4.de V4.un V4.re V4.rp V4.be) :: (RB0 b1) :: []) := hS;replace hS : Sat w0 w ((rdA V4 (i + 1) (SX.exR ⟨c, p, b⟩)) :: (SX.blk b18 [iv y.1, iv y.2.1, iv y.2.2] 57) :: (RB b15 V4.ca V4.pa V4.de V4.un V4.re V4.rp V4.be) :: (RB0 b1) :: []) := rdA_up hS;replace hS := hS.pickN 4 [2, 3, 0];have hE : R4 (t.take (i + 1)) = SX.exR ⟨c, p, b⟩ := by rw [R4_next hy, hR, stepR, if_neg (by omega), if_neg (by omega), if_neg (by omega), if_neg (by omega), if_neg (by omega), if_pos c94]; try rfl
   replace hS : Sat w0 w ((RB b15 V4.ca V4.pa V4.de V4.un V4.re V4.rp V4.be) :: (RB0 b1) :: (rdA V4 (i + 1) (R4 (t.take (i + 1)))) :: []) := by rw [hE]; exact hS
   exact ⟨_, by omega, i + 1, V4, rfl, by omega, ha.keeps [0, 2, 3, 4] _ rfl, hS⟩
  refine jV ha rfl (decide_eq_false c94) ?_
  refine wp_skip (in_n (in_n (jJ (jX [0, 1, 2] (jQ [(0, 17, iv (i : Int))] ha fun a ha => ?_)))))
  refine zJ 18 ((i : Int) + 1) ha fun a ha => ?_
  refine jQ [(2, 4, iv ((i : Int) + 1))] ha fun a ha => ?_
  refine jY (jJ ?_)
  replace hS := hS.pickN 4 [3, 0, 1, 2]
  replace hS : Sat w0 w ((rdA ⟨V.ca, V.pa, V.de, V.un, V.re, V.rp, V.be⟩ (i + 1) ⟨c, p, b⟩) :: (SX.blk b18 [iv y.1, iv y.2.1, iv y.2.2] 57) :: (RB b15 V.ca V.pa V.de V.un V.re V.rp V.be) :: (RB0 b1) :: []) := rdA_up hS
  replace hS := hS.pickN 4 [2, 3, 0]
  have hE : R4 (t.take (i + 1)) = ⟨c, p, b⟩ := by rw [R4_next hy, hR, stepR, if_neg (by omega), if_neg (by omega), if_neg (by omega), if_neg (by omega), if_neg (by omega), if_neg (by omega)]; try rfl
  replace hS : Sat w0 w ((RB b15 V.ca V.pa V.de V.un V.re V.rp V.be) :: (RB0 b1) :: (rdA ⟨V.ca, V.pa, V.de, V.un, V.re, V.rp, V.be⟩ (i + 1) (R4 (t.take (i + 1)))) :: []) := by rw [hE]; exact hS
  exact ⟨_, by omega, i + 1, ⟨V.ca, V.pa, V.de, V.un, V.re, V.rp, V.be⟩, rfl, by omega, ha.keeps [0, 2, 3, 4] _ rfl, hS⟩
 refine jV ha rfl (decide_eq_false c17) ?_
 refine wp_exit (yX (yX (in_x (jJ (wp_seq (jX [0, 1] (xG 68 ha (hS.blk 0 rfl) fun a ha => ?_)))))))
 refine jZ (o_sa 1 ha (qU (t := 107) (x := 2) (y := 68)) hS fun w a hS ha => ?_)
 refine jY (jJ (wp_ret (qK ha (by kernel_rfl) (xZ (t := 2) (ty := 107) (i := 1) ha rfl hS rfl (by kernel_rfl)) ?_)))
 have hie : i = t.length := by omega
 rw [hie, List.take_length] at hS
 exact ⟨V, rfl, hS.pickN 3 [2]⟩
theorem l4Trace_sat {w0 w : World} {Rs : List Asn} {s : Sl} {t : List (Int × Int × Int)} (hS : Sat w0 w Rs) (hr : RdE cellsE 3 w s t) (hl : t.length ≤ 1000) (hok : ∀ (i : Nat) e, t[i]? = some e → Ok4 (R4 (t.take i)) e) :
  Calls Try.prog 69 #[.slice s.A s.n s.c] w (Ret fun r w' => ∃ V : RV, r = .agg #[.slice V.ca.A V.ca.n V.ca.c, .slice V.pa.A V.pa.n V.pa.c, .slice V.de.A V.de.n V.de.c, .slice V.un.A V.un.n V.un.c, .slice V.re.A V.re.n V.re.c, .slice V.rp.A V.rp.n V.rp.c, .slice V.be.A V.be.n V.be.c] ∧ Sat w0 w' (rdA V t.length (R4 t) :: Rs)) :=
 (l4Trace_sat0 hr hl hok).mono fun e w' h => by
  cases e with
  | returned r => obtain ⟨o0, h1, h2⟩ := h; exact ⟨o0, h1, hS.comp h2⟩
  | _ => exact h.elim
theorem code51 : Try.f51.body = some (Code.seq (cr Try.f51 0 false) (Code.seq (cr Try.f51 1 false) Code.ret)) := by kernel_rfl
theorem l4Of_sat {w0 w : World} {Rs : List Asn} {s : Sl} {l : List (List ST)} {f arg fuel : Int} {k0 : Nat} (hS : Sat w0 w Rs) (hr : RdP w0 s l) (hf : Fits l) (hask : askB l f arg fuel = true) (hch : Chn (rn l f arg fuel).m k0) :
  Calls Try.prog 51 #[.agg #[.slice s.A s.n s.c], iv f, iv arg, iv fuel] w (Ret fun r w' => ∃ V : RV, r = .agg #[.slice V.ca.A V.ca.n V.ca.c, .slice V.pa.A V.pa.n V.pa.c, .slice V.de.A V.de.n V.de.c, .slice V.un.A V.un.n V.un.c, .slice V.re.A V.re.n V.re.c, .slice V.rp.A V.rp.n V.rp.c, .slice V.be.A V.be.n V.be.c] ∧ Sat w0 w' (rdA V (rn l f arg fuel).m.trace.length (R4 (rn l f arg fuel).m.trace) :: Rs)) := by
 refine enter (n := 16) Try.func51 code51 (by kernel_rfl) (Nat.le_of_ble_eq_true rfl) (fun a ha => ?_)
 replace ha : Has 16 [(0, .agg #[.slice s.A s.n s.c]), (1, iv f), (2, iv arg), (3, iv fuel)] a := ha
 refine wp_seq (jX [0, 1] (jZ (qJ 4 [.slice s.A s.n s.c] 40 (ptr · 0) ha hS fun b1 w a hb2 hS ha => ?_)))
 refine jZ (qJ 8 [.slice none 0 0, .slice none 0 0, .slice none 0 0, .slice none 0 0, .slice none 0 0, .slice none 0 0, .slice none 0 0] 107 (ptr · 0) ha hS fun b3 w a hb4 hS ha => ?_)
 refine jY (jJ (wp_seq (jX [0, 1, 2, 3, 4, 5, 6, 7] (xG 9 ha (hS.blk 1 rfl) fun a ha => ?_))))
 refine jQ [(1, 10, iv f), (2, 11, iv arg), (3, 12, iv fuel)] ha fun a ha => ?_
 refine jZ (qG 13 (vs := [.agg #[.slice s.A s.n s.c], iv f, iv arg, iv fuel]) ha (run_sat hS (hr.sat hS) hask) fun v5 w a hp6 ha => ?_)
 obtain ⟨tr1, rfl, hS⟩ := hp6
 refine jQ [(5, 14, .slice tr1.A tr1.n tr1.c)] ha fun a ha => ?_
 refine jZ (qG 15 (vs := [.slice tr1.A tr1.n tr1.c]) ha (l4Trace_sat (t := (rn l f arg fuel).m.trace) hS (hS.rdE (s := tr1) 0 zU (by decide) rfl) (run_few hask) hch.ok) fun v7 w a hp8 ha => ?_)
 obtain ⟨V, rfl, hS⟩ := hp8
 refine jZ (o_sa 2 ha (qU (t := 107) (x := 8) (y := 15)) hS fun w a hS ha => ?_)
 refine jY (jJ (wp_ret (qK ha (by kernel_rfl) (xZ (t := 8) (ty := 107) (i := 2) ha rfl hS rfl (by kernel_rfl)) ?_)))
 exact ⟨V, rfl, hS.pickN 4 [0]⟩
theorem code31 : Try.f31.body = some (Code.seq (cr Try.f31 0 false) (Code.seq (cr Try.f31 1 false) (Code.seq (Code.seq (cr Try.f31 2 false) (Code.cond (Operand.tmp 28) (Code.seq (cr Try.f31 3 false) Code.ret) Code.skip)) (Code.seq (cr Try.f31 4 false) (Code.seq (cr Try.f31 5 false) (Code.seq (Code.block 0 (Code.loop (Code.seq (Code.seq (cr Try.f31 6 false) (Code.cond (Operand.tmp 45) Code.skip (Code.exit 0))) (Code.block 1 (cr Try.f31 7 false))))) (Code.seq (Code.block 2 (Code.loop (Code.seq (Code.seq (cr Try.f31 8 false) (Code.cond (Operand.tmp 49) Code.skip (Code.exit 2))) (Code.block 3 (Code.seq (cr Try.f31 9 false) (cr Try.f31 10 false)))))) (Code.seq (cr Try.f31 11 false) Code.ret)))))))) := by kernel_rfl
theorem spec_Pch_sat {w0 w : World} {Rs : List Asn} {s : Sl} {l : List (List ST)} {f arg fuel : Int} (hS : Sat w0 w Rs) (hr : RdP w0 s l) (hf : Fits l) :
  Calls Try.prog 31 #[.agg #[.slice s.A s.n s.c], iv f, iv arg, iv fuel] w (Ret fun r w' => ∃ o : Sl, r = .tuple #[.slice o.A o.n o.c, .bool (pchP l f arg fuel).2] ∧ Sat w0 w' (SX.row (.slice o.A o.n o.c) 3 1 (SX.encI (pchP l f arg fuel).1) :: Rs)) := by
 refine enter (n := 65) Try.func31 code31 (by kernel_rfl) (Nat.le_of_ble_eq_true rfl) (fun a ha => ?_)
 replace ha : Has 65 [(0, .agg #[.slice s.A s.n s.c]), (1, iv f), (2, iv arg), (3, iv fuel)] a := ha
 refine wp_seq (jX [0, 1, 2] (jZ (qJ 4 [.slice s.A s.n s.c] 40 (ptr · 0) ha hS fun b1 w a hb2 hS ha => ?_)))
 refine jQ [(1, 8, .slice none 0 0), (2, 9, .bool false)] ha fun a ha => ?_
 refine jY (jJ (wp_seq (jX [0, 1] (jZ (qJ 13 [] 3 (fun b => .slice (some ⟨b, 0, none⟩) 0 0) ha hS fun b3 w a hb4 hS ha => ?_)))))
 refine jQ [(1, 10, .slice (some ⟨b3, 0, none⟩) 0 0)] ha fun a ha => ?_
 refine jY (jJ (wp_seq (wp_seq (jX [0, 1, 2, 3, 4, 5, 6, 7, 8, 9, 10, 11, 12, 13, 14] (xG 14 ha (hS.blk 1 rfl) fun a ha => ?_)))))
 refine jQ [(1, 15, iv f), (2, 16, iv arg), (3, 17, iv fuel)] ha fun a ha => ?_
 refine jZ (qG 18 (vs := [.agg #[.slice s.A s.n s.c], iv f, iv arg, iv fuel]) ha (ask_sat hS (hr.sat hS) hf) fun v5 w a hp6 ha => ?_)
 obtain ⟨rfl, hS⟩ := hp6
 refine jQ [(5, 19, .bool (!(askB l f arg fuel))), (6, 20, .bool (!(askB l f arg fuel)))] ha fun a ha => ?_
 rcases Bool.eq_false_or_eq_true (askB l f arg fuel) with c7 | c7
 ·
  replace ha := ha.turn 18 (.bool true) rfl (congrArg Value.bool c7)
  replace ha := ha.turn 19 (.bool false) rfl (congrArg Value.bool (zX c7))
  replace ha := ha.turn 20 (.bool false) rfl (congrArg Value.bool (zX c7))
  refine xG 21 ha (hS.blk 1 rfl) fun a ha => ?_
  refine jQ [(8, 22, iv f), (9, 23, iv arg), (10, 24, iv fuel)] ha fun a ha => ?_
  refine jZ (qG 25 (vs := [.agg #[.slice s.A s.n s.c], iv f, iv arg, iv fuel]) ha (run_sat hS (hr.sat hS) c7) fun v8 w a hp9 ha => ?_)
  obtain ⟨tr1, rfl, hS⟩ := hp9
  refine jQ [(12, 26, iv ((rn l f arg fuel).k)), (13, 27, .bool (!(decide (((rn l f arg fuel).k) = 2)))), (14, 28, .bool (!(decide (((rn l f arg fuel).k) = 2))))] ha fun a ha => ?_
  refine jY (jJ ?_)
  by_cases c10 : ((rn l f arg fuel).k) = 2
  ·
   refine jV ha rfl (zX (decide_eq_true c10)) ?_;refine wp_skip (jJ (wp_seq (jX [0, 1, 2, 3, 4, 5, 6] (xG 30 ha (hS.blk 2 rfl) fun a ha => ?_))));refine jQ [(1, 31, iv f), (2, 32, iv arg), (3, 33, iv fuel)] ha fun a ha => ?_;obtain ⟨k0, hch⟩ := run_chn c10;obtain ⟨ps, hps, hvs, hfs⟩ := hch.rd;have hpl : ps.length = (rn l f arg fuel).m.panics.length := by have := congrArg List.length hvs; simpa only [List.length_map] using this
   have hlt9 : k0 < (rn l f arg fuel).m.panics.length := hch.lt;have hpt : (rn l f arg fuel).m.panics.length ≤ 1000 := Nat.le_trans (chn_few hch) (run_few c7);refine jZ (qG 34 (vs := [.agg #[.slice s.A s.n s.c], iv f, iv arg, iv fuel]) ha (l4Of_sat hS hr hf c7 hch) fun v11 w a hp12 ha => ?_);obtain ⟨V1, rfl, hS⟩ := hp12;replace hS : Sat w0 w ((rdA V1 (rn l f arg fuel).m.trace.length ⟨[], ps, lastsM (rn l f arg fuel).m⟩) :: (rE tr1 ((rn l f arg fuel).m.trace)) :: (SX.blk b3 [] 3) :: (SX.blk b1 [.slice s.A s.n s.c] 40) :: Rs) := by rw [← hps]; exact hS
   obtain ⟨Xx1, hXx1, hS⟩ := openRd (c := []) (p := ps) (b := (lastsM (rn l f arg fuel).m)) hS;obtain ⟨hnca, hnpa, hnde, hnun, hnre, hnrp, hnbe⟩ := rd_ns (V := V1) (c := []) (p := ps) (b := (lastsM (rn l f arg fuel).m)) (X := Xx1) hS;replace hS : Sat w0 w ((RwB V1.ca []) :: (RwE V1.pa ps) :: (RwJ V1.de Xx1.dep) :: (RwU V1.un Xx1.uw) :: (jW (Xx1.uw.map unwN)) :: (RwR V1.re Xx1.rcs) :: (RwJ V1.rp Xx1.rep) :: (RwJ V1.be (lastsM (rn l f arg fuel).m)) :: (rE tr1 ((rn l f arg fuel).m.trace)) :: (SX.blk b3 [] 3) :: (SX.blk b1 [.slice s.A s.n s.c] 40) :: Rs) := hS;obtain ⟨hX1, hX2, hX3, hX4, hX5, hX6, hX7, _⟩ := id hXx1
   try simp only [List.length_set, List.length_modify] at hnca hnpa hnde hnun hnre hnrp hnbe hX1 hX2 hX3 hX4 hX5 hX6 hX7
   refine jZ (qJ 11 [.slice none 0 0, .slice none 0 0, .slice none 0 0, .slice none 0 0, .slice none 0 0, .slice none 0 0, .slice none 0 0] 107 (ptr · 0) ha hS fun b13 w a hb14 hS ha => ?_);refine jZ (o_sa 0 ha (qU (t := 107) (x := 11) (y := 34)) hS fun w a hS ha => ?_);refine jY ?_;replace ha := ha.as [(8, .slice none 0 0), (9, .bool false), (10, .slice (some ⟨b3, 0, none⟩) 0 0), (11, ptr b13 0)] rfl;refine jJ (wp_seq (jX [0, 1, 2, 3, 4] (jQ [(0, 35, ptr b13 1)] ha fun a ha => ?_)));refine jU (d := 36) (b := b13) (j := 1) ha (hS.blk 0 rfl) rfl fun a ha => ?_;refine jQ [(2, 37, iv (V1.pa.n : Int))] ha fun a ha => ?_;refine zJ 38 ((V1.pa.n : Int) - 1) ha fun a ha => ?_;refine jQ [(4, 12, iv ((V1.pa.n : Int) - 1))] ha fun a ha => ?_;refine jY (jJ (wp_seq (wp_block ?_)));replace hS := hS.pickN 12 [0, 10, 2, 8];refine wp_loop_ghost (fun n_ a_ w_ => ∃ (k : Int), n_ = (k + 1).toNat ∧ ((k0 : Int) ≤ k ∧ k < (ps.length : Int)) ∧ Has 65 [(8, .slice none 0 0), (9, .bool false), (10, .slice (some ⟨b3, 0, none⟩) 0 0), (11, ptr b13 0), (12, iv k)] a_ ∧ Sat w0 w_ ((RB b13 V1.ca V1.pa V1.de V1.un V1.re V1.rp V1.be) :: (SX.blk b3 [] 3) :: (RwE V1.pa ps) :: (RwJ V1.be (lastsM (rn l f arg fuel).m)) :: Rs)) _ ⟨(V1.pa.n : Int) - 1, rfl, by omega, ha.keeps [8, 9, 10, 11, 12] _ rfl, hS⟩ ?_
   rintro n_ a w ⟨k, rfl, hk, ha, hS⟩
   obtain ⟨z, hz⟩ : ∃ z, ps[k.toNat]? = some z := ⟨_, List.getElem?_eq_getElem (by omega)⟩;have hfz := hfs k.toNat z hz;refine wp_seq (wp_seq (jX [0, 1, 2, 3, 4, 5, 6] (jQ [(0, 39, ptr b13 1)] ha fun a ha => ?_)));refine jU (d := 40) (b := b13) (j := 1) ha (hS.blk 0 rfl) rfl fun a ha => ?_;refine jQ [(2, 41, iv k)] ha fun a ha => ?_;refine xU (.pointer (some ⟨bk V1.pa, k.toNat * 3, none⟩)) ha (xW (s := V1.pa) (el := 109) (sz := 3) (j := k.toNat) ha (yU (t := 104) (x := 40) (y := 41) (d := 42)) rfl rfl (by kernel_rfl) (by kernel_rfl) (hS.rowA (s := V1.pa) 2 rfl (by have := (List.getElem?_eq_some_iff.1 hz).1; rw [encE_length]; omega)) ((Int.toNat_of_nonneg (by omega)).symm) (by have h9 := hS.rowL (s := V1.pa) (enc := cellsE) 2 zU (by decide) rfl; have := (List.getElem?_eq_some_iff.1 hz).1; omega)) fun a ha => ?_;refine jQ [(4, 43, .pointer (some ⟨bk V1.pa, k.toNat * 3 + 2, none⟩))] ha fun a ha => ?_;refine xU (iv z.2.2) ha (zK ha (zV (t := 3) (x := 43) (d := 44) (ty := 3)) rfl (by kernel_rfl) (fun w' hw => by rw [hw]; exact (hS.rdC (s := V1.pa) 2 rfl).cells _ _ ((flat_get (enc := cellsE) (o := 2) zU hz (by decide)).trans rfl))) fun a ha => ?_;refine jQ [(6, 45, .bool (!(decide (z.2.2 = 3))))] ha fun a ha => ?_;refine jY (jJ ?_)
   by_cases c15 : z.2.2 = 3
   ·
    refine jV ha rfl (zX (decide_eq_true c15)) ?_;refine wp_exit (yX (yX (in_x (jJ (wp_seq (wp_block ?_))))));replace hS := hS.blk0 1 1 rfl;replace hS := hS.pickN 4 [0, 2, 3, 1];have hkk : k = (k0 : Int) := by have := hfz.1 c15; omega
    refine wp_loop_ghost (fun n_ a_ w_ => ∃ (k : Int) (L : List Int) (o : Sl), n_ = (k + 1).toNat ∧ (-1 ≤ k ∧ k < (ps.length : Int)) ∧ ((chainR (rn l f arg fuel).m k).reverse ++ L = (chainOf (rn l f arg fuel).m).reverse) ∧ ((L.length : Int) + k < (ps.length : Int)) ∧ Has 65 [(8, .slice none 0 0), (9, .bool false), (11, ptr b13 0), (10, .slice o.A o.n o.c), (12, iv k)] a_ ∧ Sat w0 w_ ((RB b13 V1.ca V1.pa V1.de V1.un V1.re V1.rp V1.be) :: (RwE V1.pa ps) :: (RwJ V1.be (lastsM (rn l f arg fuel).m)) :: (rI o L) :: Rs)) _ ⟨k, [], ⟨some ⟨b3, 0, none⟩, 0, 0⟩, rfl, ⟨by omega, by omega⟩, by rw [List.append_nil, hkk]; unfold chainOf; rw [arr_idx hch], by simp only [List.length_nil]; omega, ha.keeps [8, 9, 11, 10, 12] _ rfl, hS⟩ ?_
    rintro n_ a w ⟨k, L, o, rfl, hk2, hL, hLn, ha, hS⟩
    refine wp_seq (wp_seq (jX [0, 1] (jQ [(0, 48, iv k), (1, 49, .bool (decide (k ≥ 0)))] ha fun a ha => ?_)));refine jY (jJ ?_)
    by_cases c16 : k ≥ 0
    ·
     obtain ⟨z, hz⟩ : ∃ z, ps[k.toNat]? = some z := ⟨_, List.getElem?_eq_getElem (by omega)⟩;obtain ⟨x, hx⟩ : ∃ x, (rn l f arg fuel).m.panics[k.toNat]? = some x := ⟨_, List.getElem?_eq_getElem (by omega)⟩;have hzv : z.2.1 = x.value := by have h9 := congrArg (fun q : List Int => q[k.toNat]?) hvs; simp only [List.getElem?_map, hz, hx, Option.map_some, Option.some.injEq] at h9; exact h9
     have hlx : (lastsM (rn l f arg fuel).m)[k.toNat]? = some x.last := by unfold lastsM; rw [List.getElem?_map, hx]; rfl
     refine jG ha rfl (decide_eq_true c16) ?_;refine wp_skip (jJ (wp_block (wp_seq (jX [0, 1, 2, 3, 4, 5, 6, 7, 8, 9] (jQ [(0, 50, ptr b13 1)] ha fun a ha => ?_)))));refine jU (d := 51) (b := b13) (j := 1) ha (hS.blk 0 rfl) rfl fun a ha => ?_;refine jQ [(2, 52, iv k)] ha fun a ha => ?_;refine xU (.pointer (some ⟨bk V1.pa, k.toNat * 3, none⟩)) ha (xW (s := V1.pa) (el := 109) (sz := 3) (j := k.toNat) ha (yU (t := 104) (x := 51) (y := 52) (d := 53)) rfl rfl (by kernel_rfl) (by kernel_rfl) (hS.rowA (s := V1.pa) 1 rfl (by have := (List.getElem?_eq_some_iff.1 hz).1; rw [encE_length]; omega)) ((Int.toNat_of_nonneg (by omega)).symm) (by have h9 := hS.rowL (s := V1.pa) (enc := cellsE) 1 zU (by decide) rfl; have := (List.getElem?_eq_some_iff.1 hz).1; omega)) fun a ha => ?_;refine jQ [(4, 54, .pointer (some ⟨bk V1.pa, k.toNat * 3 + 1, none⟩))] ha fun a ha => ?_;refine xU (iv z.2.1) ha (zK ha (zV (t := 3) (x := 54) (d := 55) (ty := 3)) rfl (by kernel_rfl) (fun w' hw => by rw [hw]; exact (hS.rdC (s := V1.pa) 1 rfl).cells _ _ ((flat_get (enc := cellsE) (o := 1) zU hz (by decide)).trans rfl))) fun a ha => ?_;refine jZ (qJ 56 [iv z.2.1] 3 (fun b => .slice (some ⟨b, 0, none⟩) 1 1) ha hS fun b17 w a hb18 hS ha => ?_);refine jQ [(7, 57, .slice o.A o.n o.c)] ha fun a ha => ?_;replace hS := litRow hS 1 1 0 rfl rfl (by decide);replace hS : Sat w0 w ((rI (⟨some ⟨b17, 0, none⟩, 1, 1⟩ : Sl) [z.2.1]) :: (RB b13 V1.ca V1.pa V1.de V1.un V1.re V1.rp V1.be) :: (RwE V1.pa ps) :: (RwJ V1.be (lastsM (rn l f arg fuel).m)) :: (rI o L) :: Rs) := hS;refine jZ (o_appI (s2 := o) (z := iv 0) (bytes := 8) 0 4 ha (by decide) (zW (op := (Op.call { callee := (Callee.builtin Builtin.append), args := #[(Operand.tmp 56), (Operand.tmp 57)], argTypes := #[49, 49] })) (d := some 58) (ty := 49)) rfl rfl (by kernel_rfl) (by kernel_rfl) rfl hS rfl rfl (by (try simp only [List.length_cons, List.length_nil]); omega) (by decide) fun s19 w a hS ha => ?_);refine jQ [(9, 10, .slice s19.A s19.n s19.c)] ha fun a ha => ?_;refine jY (jJ (jX [0, 1, 2, 3, 4, 5] (jQ [(0, 59, ptr b13 6)] ha fun a ha => ?_)));refine jU (d := 60) (b := b13) (j := 6) ha (hS.blk 1 rfl) rfl fun a ha => ?_;refine jQ [(2, 61, iv k)] ha fun a ha => ?_;refine xU (.pointer (some ⟨bk V1.be, k.toNat * 1, none⟩)) ha (xW (s := V1.be) (el := 3) (sz := 1) (j := k.toNat) ha (yU (t := 49) (x := 60) (y := 61) (d := 62)) rfl rfl (by kernel_rfl) (by kernel_rfl) (hS.rowA (s := V1.be) 3 rfl (by have := (List.getElem?_eq_some_iff.1 hlx).1; rw [encJ_length]; omega)) ((Int.toNat_of_nonneg (by omega)).symm) (by have h9 := hS.rowL (s := V1.be) (enc := cellsJ) 3 cellsJ_len (by decide) rfl; have := (List.getElem?_eq_some_iff.1 hlx).1; omega)) fun a ha => ?_;refine xU (iv x.last) ha (zK ha (zV (t := 3) (x := 62) (d := 63) (ty := 3)) rfl (by kernel_rfl) (fun w' hw => by rw [hw]; exact (hS.rdC (s := V1.be) 3 rfl).cells _ _ ((flat_get (enc := cellsJ) (o := 0) cellsJ_len hlx (by decide)).trans rfl))) fun a ha => ?_;refine jQ [(5, 12, iv x.last)] ha fun a ha => ?_
     refine jY (in_n (jJ ?_));replace hS := hS.pickN 5 [1, 2, 3, 0];exact ⟨_, by have := hch.la k.toNat x hx; omega, x.last, ([z.2.1] ++ L), s19, rfl, by have := hch.la k.toNat x hx; omega, by have h9 := hL; rw [show k = ((k.toNat : Nat) : Int) from (Int.toNat_of_nonneg (by omega)).symm, chainR_next hch hx] at h9; rw [← h9, hzv]; simp, by have := hch.la k.toNat x hx; simp only [List.length_append, List.length_cons, List.length_nil] at *; omega, ha.keeps [8, 9, 11, 10, 12] _ rfl, hS⟩
    refine jV ha rfl (decide_eq_false c16) ?_;refine wp_exit (yX (yX (in_x (jJ (wp_seq (jX [0, 1, 2] (jQ [(0, 64, .slice o.A o.n o.c), (1, 8, .slice o.A o.n o.c), (2, 9, .bool true)] ha fun a ha => ?_)))))));refine jY ?_;replace ha := ha.as [(8, .slice o.A o.n o.c), (9, .bool true)] rfl;refine jJ (wp_ret (yH ha (by kernel_rfl) (yJ (t := 8) ha rfl) (yJ (t := 9) ha rfl) ?_));have hE : L = (chainOf (rn l f arg fuel).m).reverse := by have h9 := hL; rw [chainR_end _ (by omega)] at h9; exact h9
    rw [pchP_yes c7 c10, ← hE];exact ⟨o, rfl, hS.pickN 4 [3]⟩
   refine jG ha rfl (kJ (decide_eq_false c15)) ?_;refine wp_skip (jJ (wp_block (jX [0, 1, 2] (jQ [(0, 46, iv k)] ha fun a ha => ?_))));refine zJ 47 (k - 1) ha fun a ha => ?_;refine jQ [(2, 12, iv (k - 1))] ha fun a ha => ?_;refine jY (in_n (jJ ?_));replace hS : Sat w0 w ((RB b13 V1.ca V1.pa V1.de V1.un V1.re V1.rp V1.be) :: (SX.blk b3 [] 3) :: (RwE V1.pa ps) :: (RwJ V1.be (lastsM (rn l f arg fuel).m)) :: Rs) := hS;exact ⟨_, by omega, k - 1, rfl, by omega, ha.keeps [8, 9, 10, 11, 12] _ rfl, hS⟩
  refine jG ha rfl (kJ (decide_eq_false c10)) ?_
  refine wp_seq (jX [0, 1, 2] (jQ [(0, 29, .slice (some ⟨b3, 0, none⟩) 0 0), (1, 8, .slice (some ⟨b3, 0, none⟩) 0 0), (2, 9, .bool false)] ha fun a ha => ?_))
  refine jY (jJ (wp_ret (xQ (yH ha (by kernel_rfl) (yJ (t := 8) ha rfl) (yJ (t := 9) ha rfl) ?_))))
  rw [pchP_no2 c10]
  replace hS := hS.blk0 1 1 rfl
  exact ⟨⟨some ⟨b3, 0, none⟩, 0, 0⟩, rfl, hS.pickN 3 [1]⟩
 replace ha := ha.turn 18 (.bool false) rfl (congrArg Value.bool c7)
 replace ha := ha.turn 19 (.bool true) rfl (congrArg Value.bool (kJ c7))
 replace ha := ha.turn 20 (.bool true) rfl (congrArg Value.bool (kJ c7))
 refine jQ [(7, 21, undef), (8, 22, undef), (9, 23, undef), (10, 24, undef), (11, 25, undef), (12, 26, undef), (13, 27, undef), (14, 28, .bool true)] ha fun a ha => ?_
 refine jY (jJ ?_)
 refine jG ha rfl rfl ?_
 refine wp_seq (jX [0, 1, 2] (jQ [(0, 29, .slice (some ⟨b3, 0, none⟩) 0 0), (1, 8, .slice (some ⟨b3, 0, none⟩) 0 0), (2, 9, .bool false)] ha fun a ha => ?_))
 refine jY ?_
 replace ha := ha.as [(1, iv f), (2, iv arg), (3, iv fuel), (4, ptr b1 0), (10, .slice (some ⟨b3, 0, none⟩) 0 0), (8, .slice (some ⟨b3, 0, none⟩) 0 0), (9, .bool false)] rfl
 refine jJ (wp_ret (xQ (yH ha (by kernel_rfl) (yJ (t := 8) ha rfl) (yJ (t := 9) ha rfl) ?_)))
 rw [pchP_no1 c7]
 replace hS := hS.blk0 1 0 rfl
 exact ⟨⟨some ⟨b3, 0, none⟩, 0, 0⟩, rfl, hS.pickN 2 [0]⟩
def wdN : List NdS → Int
 | [] => 0
 | x :: l => 2 + (x.pts.length : Int) + wdN l
def mkNs : Int → List NdS → List NdS
 | _, [] => []
 | k, x :: l => ⟨k, k + 1, x.sl, mkG (k + 2) x.pts.length⟩ :: mkNs (k + 2 + (x.pts.length : Int)) l
theorem mkNs_len : ∀ (k : Int) (l : List NdS), (mkNs k l).length = l.length
 | _, [] => rfl
 | k, x :: l => by simp only [mkNs, List.length_cons, mkNs_len]
theorem wdN_snoc : ∀ (l : List NdS) (x : NdS), wdN (l ++ [x]) = wdN l + 2 + (x.pts.length : Int)
 | [], x => by simp [wdN]
 | y :: l, x => by rw [List.cons_append, wdN, wdN, wdN_snoc l x]; omega
theorem mkNs_snoc : ∀ (k : Int) (l : List NdS) (x : NdS), mkNs k (l ++ [x]) = mkNs k l ++ [⟨k + wdN l, k + wdN l + 1, x.sl, mkG (k + wdN l + 2) x.pts.length⟩]
 | k, [], x => by simp [mkNs, wdN]
 | k, y :: l, x => by
  rw [List.cons_append, mkNs, mkNs, mkNs_snoc, List.cons_append, wdN]
  have e : k + 2 + (y.pts.length : Int) + wdN l = k + (2 + (y.pts.length : Int) + wdN l) := by omega
  rw [e]
theorem wdN_le : ∀ {l : List NdS}, (∀ x ∈ l, x.pts.length ≤ 1) → 0 ≤ wdN l ∧ wdN l ≤ 3 * (l.length : Int)
 | [], _ => by simp [wdN]
 | x :: l, h => by
  have h1 := wdN_le (l := l) fun y hy => h y (List.mem_cons_of_mem _ hy)
  have h2 := h x (List.mem_cons_self ..)
  simp only [wdN, List.length_cons]; omega
theorem take_snoc {α : Type} {l : List α} {i : Nat} {x : α} (h : l[i]? = some x) : l.take (i + 1) = l.take i ++ [x] := by rw [List.take_add_one, h]; rfl
theorem mkNs_next {k0 k : Int} {us : List NdS} {i : Nat} {x : NdS} (h : us[i]? = some x) (hk : k = k0 + wdN (us.take i)) : (mkNs k0 (us.take i) ++ us.drop i).set i ⟨k, k + 1, x.sl, mkG (k + 2) x.pts.length⟩ = mkNs k0 (us.take (i + 1)) ++ us.drop (i + 1) :=
 set_drop (f := fun j => mkNs k0 (us.take j)) (by have := (List.getElem?_eq_some_iff.1 h).1; rw [mkNs_len, List.length_take]; omega) (List.getElem?_eq_some_iff.1 h).1 (by show mkNs k0 (us.take (i + 1)) = _; rw [take_snoc h, mkNs_snoc, ← hk])
theorem mkNs_here {k0 : Int} {us : List NdS} {i : Nat} {x : NdS} (h : us[i]? = some x) : (mkNs k0 (us.take i) ++ us.drop i)[i]? = some x := by
 have hi := (List.getElem?_eq_some_iff.1 h).1
 have hl : (mkNs k0 (us.take i)).length = i := by rw [mkNs_len, List.length_take]; omega
 rw [List.getElem?_append_right (by omega), hl, Nat.sub_self, List.getElem?_drop, Nat.add_zero]; exact h
theorem mkNs_at {k0 k : Int} {us : List NdS} {i : Nat} {x : NdS} (h : us[i]? = some x) (hk : k = k0 + wdN (us.take i)) : (mkNs k0 us)[i]? = some ⟨k, k + 1, x.sl, mkG (k + 2) x.pts.length⟩ := by
 have hi := (List.getElem?_eq_some_iff.1 h).1
 have e : us = us.take i ++ [x] ++ us.drop (i + 1) := by
  rw [← take_snoc h, List.take_append_drop]
 have gen : ∀ (k : Int) (a b : List NdS), mkNs k (a ++ b) = mkNs k a ++ mkNs (k + wdN a) b := by
  intro k a
  induction a generalizing k with
  | nil => intro b; simp [mkNs, wdN]
  | cons y a ih =>
   intro b;rw [List.cons_append, mkNs, mkNs, ih, List.cons_append, wdN, show k + 2 + (y.pts.length : Int) + wdN a = k + (2 + (y.pts.length : Int) + wdN a) by omega]
 conv => lhs; rw [e]
 rw [gen, mkNs_snoc]
 have hl : (mkNs k0 (us.take i)).length = i := by rw [mkNs_len, List.length_take]; omega
 rw [List.append_assoc, List.getElem?_append_right (by omega), hl, Nat.sub_self, ← hk]; rfl
theorem encN_same {us : List NdS} {j : Nat} {a b : NdS} (h1 : a.kd = b.kd) (h2 : a.cd = b.cd) (h3 : a.sl = b.sl) : encN (us.set j a) = encN (us.set j b) := by
 have e : cellsN a = cellsN b := by unfold cellsN; rw [h1, h2, h3]
 unfold encN
 rw [List.flatMap_def, List.flatMap_def, List.map_set, List.map_set, e]
theorem starRd {w0 w : World} {Rs : List Asn} {us : List NdS} {j : Nat} {x : NdS} (hS : Sat w0 w (jW (us.map ownN) :: Rs)) (hx : us[j]? = some x) : RdI w x.sl x.pts := by
 have h1 := Sat.takeAt (g := ownN) hx hS
 have h2 : Sat w0 w (SX.row (.slice x.sl.A x.sl.n x.sl.c) 3 1 (SX.encI x.pts) :: jW ((us.eraseIdx j).map ownN) :: Rs) := by rw [encJ_I]; exact h1
 exact h2.rdRow (s := x.sl) 0 rfl
theorem plN_at {us vs : List NdS} {j : Nat} {x y : NdS} (h : us.map plN = vs.map plN) (hx : us[j]? = some x) (hy : vs[j]? = some y) : plN x = plN y := by
 have h9 := congrArg (fun q : List (Int × Int × List Int) => q[j]?) h
 simp only [List.getElem?_map, hx, hy, Option.map_some, Option.some.injEq] at h9
 exact h9
theorem errP_few {l : List (List ST)} {f arg fuel : Int} {us : List NdS} (h : us.map plN = (errP l f arg fuel).1) : us.length ≤ 12 ∧ ∀ x ∈ us, x.pts.length ≤ 1 := by
  unfold errP at h
  split at h
  · have h1 := congrArg List.length h
    rw [List.length_map, nodesE_len] at h1;refine ⟨by omega, fun x hx => ?_⟩
    have h2 : plN x ∈ nodesE (chainOf (rn l f arg fuel).m) := by
      have : plN x ∈ us.map plN := List.mem_map_of_mem hx;rw [h] at this; exact this
    obtain ⟨i, hi⟩ := List.getElem?_of_mem h2;unfold nodesE at hi;rw [List.getElem?_mapIdx] at hi;obtain ⟨v, _, hv⟩ := Option.map_eq_some_iff.1 hi;have h3 : x.pts = (plN x).2.2 := rfl;rw [h3, ← hv];unfold nodeE
    split <;> simp
  · have h1 := congrArg List.length h
    rw [List.length_map] at h1;have h0 : us = [] := List.eq_nil_of_length_eq_zero h1;subst h0;exact ⟨by simp, fun x hx => by simp at hx⟩
theorem code55 : Try.f55.body = some (Code.seq (cr Try.f55 0 false) (Code.seq (Code.seq (cr Try.f55 1 false) (Code.cond (Operand.tmp 9) (Code.seq (cr Try.f55 2 false) Code.ret) Code.skip)) (Code.seq (Code.seq (cr Try.f55 3 false) (Code.cond (Operand.tmp 14) (Code.seq (cr Try.f55 4 false) Code.ret) Code.skip)) (Code.seq (Code.seq (cr Try.f55 5 false) (Code.cond (Operand.tmp 20) (Code.seq (cr Try.f55 6 false) Code.ret) Code.skip)) (Code.seq (cr Try.f55 7 false) Code.ret))))) := by kernel_rfl
theorem eqNd_sat0 {w0 : World} {kd cd : Int} {s1 s2 : Sl} {p : List Int} (h1 : RdI w0 s1 p) (h2 : RdI w0 s2 p) :
  Calls Try.prog 55 #[.agg #[iv kd, iv cd, .slice s1.A s1.n s1.c], .agg #[iv kd, iv cd, .slice s2.A s2.n s2.c]] w0 (Ret fun r w' => r = .bool true ∧ Sat w0 w' []) := by
 have hS : Sat w0 w0 [] := Sat.start w0
 refine enter (n := 21) Try.func55 code55 (by kernel_rfl) (Nat.le_of_ble_eq_true rfl) (fun a ha => ?_)
 replace ha : Has 21 [(0, .agg #[iv kd, iv cd, .slice s1.A s1.n s1.c]), (1, .agg #[iv kd, iv cd, .slice s2.A s2.n s2.c])] a := ha
 refine wp_seq (jX [0, 1, 2] (jZ (qJ 2 [iv kd, iv cd, .slice s1.A s1.n s1.c] 71 (ptr · 0) ha hS fun b1 w a hb2 hS ha => ?_)))
 refine jZ (qJ 3 [iv kd, iv cd, .slice s2.A s2.n s2.c] 71 (ptr · 0) ha hS fun b3 w a hb4 hS ha => ?_)
 refine jQ [(2, 4, .bool false)] ha fun a ha => ?_
 refine jY (jJ (wp_seq (wp_seq (jX [0, 1, 2, 3, 4] (jQ [(0, 5, ptr b1 0)] ha fun a ha => ?_)))))
 refine jU (d := 6) (b := b1) (j := 0) ha (hS.blk 1 rfl) rfl fun a ha => ?_
 refine jQ [(2, 7, ptr b3 0)] ha fun a ha => ?_
 refine jU (d := 8) (b := b3) (j := 0) ha (hS.blk 0 rfl) rfl fun a ha => ?_
 refine xU (.bool false) ha ((qZ (v := .bool (!(decide (kd = kd)))) ha (zW (op := (Op.binOp BinOp.neq 3 (Operand.tmp 6) (Operand.tmp 8) 3)) (d := some 9) (ty := 4)) (by kernel_rfl) (fun _ => by kernel_rfl)).as (by simp)) fun a ha => ?_
 refine jY (jJ ?_)
 refine jV ha rfl rfl ?_
 refine wp_skip (jJ (wp_seq (wp_seq (jX [0, 1, 2, 3, 4] (jQ [(0, 10, ptr b1 1)] ha fun a ha => ?_)))))
 refine jU (d := 11) (b := b1) (j := 1) ha (hS.blk 1 rfl) rfl fun a ha => ?_
 refine jQ [(2, 12, ptr b3 1)] ha fun a ha => ?_
 refine jU (d := 13) (b := b3) (j := 1) ha (hS.blk 0 rfl) rfl fun a ha => ?_
 refine xU (.bool false) ha ((qZ (v := .bool (!(decide (cd = cd)))) ha (zW (op := (Op.binOp BinOp.neq 3 (Operand.tmp 11) (Operand.tmp 13) 3)) (d := some 14) (ty := 4)) (by kernel_rfl) (fun _ => by kernel_rfl)).as (by simp)) fun a ha => ?_
 refine jY (jJ ?_)
 refine jV ha rfl rfl ?_
 refine wp_skip (jJ (wp_seq (wp_seq (jX [0, 1, 2, 3, 4, 5] (jQ [(0, 15, ptr b1 2)] ha fun a ha => ?_)))))
 refine jU (d := 16) (b := b1) (j := 2) ha (hS.blk 1 rfl) rfl fun a ha => ?_
 refine jQ [(2, 17, ptr b3 2)] ha fun a ha => ?_
 refine jU (d := 18) (b := b3) (j := 2) ha (hS.blk 0 rfl) rfl fun a ha => ?_
 refine jZ (qG 19 (vs := [.slice s1.A s1.n s1.c, .slice s2.A s2.n s2.c]) ha (eqIntS_sat (l := p) hS (h1.sat hS) (h2.sat hS)) fun v5 w a hp6 ha => ?_)
 obtain ⟨rfl, hS⟩ := hp6
 refine jQ [(5, 20, .bool false)] ha fun a ha => ?_
 refine jY ?_
 replace ha := ha.as [(4, .bool false), (20, .bool false)] rfl
 refine jJ ?_
 refine jV ha rfl rfl ?_
 refine wp_skip (jJ (wp_seq (jX [0] (jQ [(0, 4, .bool true)] ha fun a ha => ?_))))
 refine jY (jJ (wp_ret (qK ha (by kernel_rfl) (yJ (t := 4) ha rfl) ?_)))
 exact ⟨rfl, Sat.rest [_, _] hS⟩
theorem eqNd_sat {w0 w : World} {Rs : List Asn} {x y : NdS} (hS : Sat w0 w Rs) (h : plN x = plN y) (h1 : RdI w x.sl x.pts) (h2 : RdI w y.sl y.pts) :
  Calls Try.prog 55 #[.agg #[.int .i64 x.kd, .int .i64 x.cd, .slice x.sl.A x.sl.n x.sl.c], .agg #[.int .i64 y.kd, .int .i64 y.cd, .slice y.sl.A y.sl.n y.sl.c]] w (Ret fun r w' => r = .bool true ∧ Sat w0 w' Rs) := by
 obtain ⟨kd, cd, s1, p⟩ := x
 obtain ⟨kd2, cd2, s2, p2⟩ := y
 simp only [plN, Prod.mk.injEq] at h
 obtain ⟨rfl, rfl, rfl⟩ := h
 exact lift0 hS (eqNd_sat0 h1 h2)
theorem code35 : Try.f35.body = some (Code.seq (cr Try.f35 0 false) (Code.seq (Code.seq (cr Try.f35 1 false) (Code.cond (Operand.tmp 10) (Code.seq (cr Try.f35 2 false) Code.ret) Code.skip)) (Code.seq (Code.seq (cr Try.f35 3 false) (Code.block 0 (Code.loop (Code.seq (Code.seq (cr Try.f35 4 false) (Code.cond (Operand.tmp 14) Code.skip (Code.exit 0))) (Code.seq (Code.block 1 (Code.seq (cr Try.f35 6 true) (Code.cond (Operand.tmp 26) (Code.seq (cr Try.f35 7 false) Code.ret) Code.skip))) (cr Try.f35 5 false)))))) (Code.seq (cr Try.f35 8 false) Code.ret)))) := by kernel_rfl
theorem eqNdS_sat {w0 w : World} {Rs : List Asn} {o1 o2 : Sl} {us vs : List NdS} (hS : Sat w0 w (SX.row (.slice o1.A o1.n o1.c) 71 3 (encN us) :: jW (us.map ownN) :: SX.row (.slice o2.A o2.n o2.c) 71 3 (encN vs) :: jW (vs.map ownN) :: Rs)) (he : us.map plN = vs.map plN) (hl : us.length ≤ 12) :
  Calls Try.prog 35 #[.slice o1.A o1.n o1.c, .slice o2.A o2.n o2.c] w (Ret fun r w' => r = .bool true ∧ Sat w0 w' (SX.row (.slice o1.A o1.n o1.c) 71 3 (encN us) :: jW (us.map ownN) :: SX.row (.slice o2.A o2.n o2.c) 71 3 (encN vs) :: jW (vs.map ownN) :: Rs)) := by
 have hn1 : o1.n = us.length := hS.rowL (s := o1) (enc := cellsN) 0 cellsN_len (by decide) rfl
 have hn2 : o2.n = vs.length := hS.rowL (s := o2) (enc := cellsN) 2 cellsN_len (by decide) rfl
 have hlv : us.length = vs.length := by have := congrArg List.length he; simpa only [List.length_map] using this
 refine enter (n := 27) Try.func35 code35 (by kernel_rfl) (Nat.le_of_ble_eq_true rfl) (fun a ha => ?_)
 replace ha : Has 27 [(0, .slice o1.A o1.n o1.c), (1, .slice o2.A o2.n o2.c)] a := ha
 refine wp_seq (jX [0] (jQ [(0, 4, .bool false)] ha fun a ha => ?_))
 refine jY (jJ (wp_seq (wp_seq (jX [0, 1, 2, 3, 4] (jQ [(0, 6, .slice o1.A o1.n o1.c), (1, 7, iv (o1.n : Int)), (2, 8, .slice o2.A o2.n o2.c), (3, 9, iv (o2.n : Int)), (4, 10, .bool (!(decide ((o1.n : Int) = (o2.n : Int)))))] ha fun a ha => ?_)))))
 refine jY (jJ ?_)
 by_cases c1 : (o1.n : Int) = (o2.n : Int)
 ·
  refine jV ha rfl (zX (decide_eq_true c1)) ?_
  refine wp_skip (jJ (wp_seq (wp_seq (jX [0] (jQ [(0, 5, iv 0)] ha fun a ha => ?_)))))
  refine jY (jJ (wp_block ?_))
  replace hS : Sat w0 w ((SX.row (.slice o1.A o1.n o1.c) 71 3 (encN us)) :: (jW (us.map ownN)) :: (SX.row (.slice o2.A o2.n o2.c) 71 3 (encN vs)) :: (jW (vs.map ownN)) :: Rs) := hS
  refine wp_loop_ghost (fun n_ a_ w_ => ∃ (i : Nat), n_ = us.length - i ∧ (i ≤ us.length) ∧ Has 27 [(0, .slice o1.A o1.n o1.c), (1, .slice o2.A o2.n o2.c), (4, .bool false), (5, iv (i : Int))] a_ ∧ Sat w0 w_ ((SX.row (.slice o1.A o1.n o1.c) 71 3 (encN us)) :: (jW (us.map ownN)) :: (SX.row (.slice o2.A o2.n o2.c) 71 3 (encN vs)) :: (jW (vs.map ownN)) :: Rs)) _ ⟨0, rfl, Nat.zero_le _, ha.keeps [0, 1, 4, 5] _ rfl, hS⟩ ?_
  rintro n_ a w ⟨i, rfl, hi, ha, hS⟩
  refine wp_seq (wp_seq (jX [0, 1, 2, 3] (jQ [(0, 11, iv (i : Int)), (1, 12, .slice o1.A o1.n o1.c), (2, 13, iv (o1.n : Int)), (3, 14, .bool (decide ((i : Int) < (o1.n : Int))))] ha fun a ha => ?_)))
  refine jY (jJ ?_)
  by_cases c2 : (i : Int) < (o1.n : Int)
  ·
   obtain ⟨x, hx⟩ : ∃ x, us[i]? = some x := ⟨_, List.getElem?_eq_getElem (by omega)⟩;obtain ⟨y, hy⟩ : ∃ y, vs[i]? = some y := ⟨_, List.getElem?_eq_getElem (by omega)⟩;refine jG ha rfl (decide_eq_true c2) ?_;refine wp_skip (jJ (wp_seq (wp_block (wp_seq (xH 8 10 hS fun w hS => ?_)))));refine jK (k := 8) [(0, 17, .slice o1.A o1.n o1.c), (1, 18, iv (i : Int))] ha (.inr hS) fun a ha => ?_;refine zQ 2 (.pointer (some ⟨bk o1, i * 3, none⟩)) ha (xW (s := o1) (el := 71) (sz := 3) (j := i) ha (yU (t := 33) (x := 17) (y := 18) (d := 19)) rfl rfl (by kernel_rfl) (by kernel_rfl) (hS.rowA (s := o1) 0 rfl (by have := (List.getElem?_eq_some_iff.1 hx).1; rw [encN_length]; omega)) (rfl) (by have h9 := hS.rowL (s := o1) (enc := cellsN) 0 cellsN_len (by decide) rfl; have := (List.getElem?_eq_some_iff.1 hx).1; omega)) (.inr hS) fun a ha => ?_;refine zH 3 (.agg #[iv x.kd, iv x.cd, .slice x.sl.A x.sl.n x.sl.c]) ha (v_loadL ha (zV (t := 71) (x := 19) (d := 20) (ty := 71)) rfl (fun w' hw => run_loadVar_agg (vs := [iv x.kd, iv x.cd, .slice x.sl.A x.sl.n x.sl.c]) (by kernel_rfl) (fun i u hu => by match i, hu with | 0, hu => rw [add0]; rw [← Option.some.inj hu]; exact (((hw.rdC (s := o1) 0 rfl)).cells _ _ ((flat_get (enc := cellsN) (o := 0) cellsN_len hx (by decide)).trans rfl)) | 1, hu => rw [add0]; rw [← Option.some.inj hu]; exact (((hw.rdC (s := o1) 0 rfl)).cells _ _ ((flat_get (enc := cellsN) (o := 1) cellsN_len hx (by decide)).trans rfl)) | 2, hu => rw [add0]; rw [← Option.some.inj hu]; exact (((hw.rdC (s := o1) 0 rfl)).cells _ _ ((flat_get (enc := cellsN) (o := 2) cellsN_len hx (by decide)).trans rfl)) | n + 3, hu => simp at hu))) hS fun a ha => ?_;refine jK (k := 4) [(4, 21, .slice o2.A o2.n o2.c), (5, 22, iv (i : Int))] ha (.inr hS) fun a ha => ?_;refine zQ 6 (.pointer (some ⟨bk o2, i * 3, none⟩)) ha (xW (s := o2) (el := 71) (sz := 3) (j := i) ha (yU (t := 33) (x := 21) (y := 22) (d := 23)) rfl rfl (by kernel_rfl) (by kernel_rfl) (hS.rowA (s := o2) 2 rfl (by have := (List.getElem?_eq_some_iff.1 hy).1; rw [encN_length]; omega)) (rfl) (by have h9 := hS.rowL (s := o2) (enc := cellsN) 2 cellsN_len (by decide) rfl; have := (List.getElem?_eq_some_iff.1 hy).1; omega)) (.inr hS) fun a ha => ?_;refine zH 7 (.agg #[iv y.kd, iv y.cd, .slice y.sl.A y.sl.n y.sl.c]) ha (v_loadL ha (zV (t := 71) (x := 23) (d := 24) (ty := 71)) rfl (fun w' hw => run_loadVar_agg (vs := [iv y.kd, iv y.cd, .slice y.sl.A y.sl.n y.sl.c]) (by kernel_rfl) (fun i u hu => by match i, hu with | 0, hu => rw [add0]; rw [← Option.some.inj hu]; exact (((hw.rdC (s := o2) 2 rfl)).cells _ _ ((flat_get (enc := cellsN) (o := 0) cellsN_len hy (by decide)).trans rfl)) | 1, hu => rw [add0]; rw [← Option.some.inj hu]; exact (((hw.rdC (s := o2) 2 rfl)).cells _ _ ((flat_get (enc := cellsN) (o := 1) cellsN_len hy (by decide)).trans rfl)) | 2, hu => rw [add0]; rw [← Option.some.inj hu]; exact (((hw.rdC (s := o2) 2 rfl)).cells _ _ ((flat_get (enc := cellsN) (o := 2) cellsN_len hy (by decide)).trans rfl)) | n + 3, hu => simp at hu))) hS fun a ha => ?_
   refine jH 8 (qG 25 (vs := [.agg #[iv x.kd, iv x.cd, .slice x.sl.A x.sl.n x.sl.c], .agg #[iv y.kd, iv y.cd, .slice y.sl.A y.sl.n y.sl.c]]) ha (eqNd_sat hS (plN_at he hx hy) (starRd (us := us) (hS.pickN 4 [1]) hx) (starRd (us := vs) (hS.pickN 4 [3]) hy)) fun v3 w a hp4 ha => ?_);obtain ⟨rfl, hS⟩ := hp4;refine xJ (jK (k := 0) [(9, 26, .bool false)] ha (.inl (by kernel_rfl)) fun a ha => ?_);refine xX (jJ ?_);refine jV ha rfl rfl ?_;refine wp_skip (in_n (jJ (jX [0, 1, 2] (jQ [(0, 15, iv (i : Int))] ha fun a ha => ?_))));refine zJ 16 ((i : Int) + 1) ha fun a ha => ?_;refine jQ [(2, 5, iv ((i : Int) + 1))] ha fun a ha => ?_;refine jY (jJ ?_);replace hS : Sat w0 w ((SX.row (.slice o1.A o1.n o1.c) 71 3 (encN us)) :: (jW (us.map ownN)) :: (SX.row (.slice o2.A o2.n o2.c) 71 3 (encN vs)) :: (jW (vs.map ownN)) :: Rs) := hS;exact ⟨_, by omega, i + 1, rfl, by omega, ha.keeps [0, 1, 4, 5] _ rfl, hS⟩
  refine jV ha rfl (decide_eq_false c2) ?_
  refine wp_exit (yX (yX (in_x (jJ (wp_seq (jX [0] (jQ [(0, 4, .bool true)] ha fun a ha => ?_)))))))
  refine jY (jJ (wp_ret (qK ha (by kernel_rfl) (yJ (t := 4) ha rfl) ?_)))
  exact ⟨rfl, hS⟩
 exfalso; omega
theorem code16 : Try.f16.body = some (Code.seq (cr Try.f16 0 false) (Code.seq (Code.seq (cr Try.f16 1 false) (Code.cond (Operand.tmp 10) (Code.seq (cr Try.f16 2 false) Code.ret) Code.skip)) (Code.seq (cr Try.f16 3 false) Code.ret))) := by kernel_rfl
theorem eqErr_sat {w0 w : World} {Rs : List Asn} {o1 o2 : Sl} {us vs : List NdS} (hS : Sat w0 w (SX.row (.slice o1.A o1.n o1.c) 71 3 (encN us) :: jW (us.map ownN) :: SX.row (.slice o2.A o2.n o2.c) 71 3 (encN vs) :: jW (vs.map ownN) :: Rs)) (he : us.map plN = vs.map plN) (hl : us.length ≤ 12) :
  Calls Try.prog 16 #[.agg #[.slice o1.A o1.n o1.c], .agg #[.slice o2.A o2.n o2.c]] w (Ret fun r w' => r = .bool true ∧ Sat w0 w' (SX.row (.slice o1.A o1.n o1.c) 71 3 (encN us) :: jW (us.map ownN) :: SX.row (.slice o2.A o2.n o2.c) 71 3 (encN vs) :: jW (vs.map ownN) :: Rs)) := by
 refine enter (n := 11) Try.func16 code16 (by kernel_rfl) (Nat.le_of_ble_eq_true rfl) (fun a ha => ?_)
 replace ha : Has 11 [(0, .agg #[.slice o1.A o1.n o1.c]), (1, .agg #[.slice o2.A o2.n o2.c])] a := ha
 refine wp_seq (jX [0, 1, 2] (jZ (qJ 2 [.slice o1.A o1.n o1.c] 35 (ptr · 0) ha hS fun b1 w a hb2 hS ha => ?_)))
 refine jZ (qJ 3 [.slice o2.A o2.n o2.c] 35 (ptr · 0) ha hS fun b3 w a hb4 hS ha => ?_)
 refine jQ [(2, 4, .bool false)] ha fun a ha => ?_
 refine jY (jJ (wp_seq (wp_seq (jX [0, 1, 2, 3, 4, 5] (jQ [(0, 5, ptr b1 0)] ha fun a ha => ?_)))))
 refine jU (d := 6) (b := b1) (j := 0) ha (hS.blk 1 rfl) rfl fun a ha => ?_
 refine jQ [(2, 7, ptr b3 0)] ha fun a ha => ?_
 refine jU (d := 8) (b := b3) (j := 0) ha (hS.blk 0 rfl) rfl fun a ha => ?_
 replace hS := hS.pickN 6 [2, 3, 4, 5, 0, 1]
 refine jZ (qG 9 (vs := [.slice o1.A o1.n o1.c, .slice o2.A o2.n o2.c]) ha (eqNdS_sat hS he hl) fun v5 w a hp6 ha => ?_)
 obtain ⟨rfl, hS⟩ := hp6
 refine jQ [(5, 10, .bool false)] ha fun a ha => ?_
 refine jY (jJ ?_)
 refine jV ha rfl rfl ?_
 refine wp_skip (jJ (wp_seq (jX [0] (jQ [(0, 4, .bool true)] ha fun a ha => ?_))))
 refine jY (jJ (wp_ret (qK ha (by kernel_rfl) (yJ (t := 4) ha rfl) ?_)))
 exact ⟨rfl, hS.pickN 6 [0, 1, 2, 3]⟩
theorem code38 : Try.f38.body = some (Code.seq (cr Try.f38 0 false) (Code.seq (Code.seq (cr Try.f38 1 false) (Code.block 0 (Code.loop (Code.seq (Code.seq (cr Try.f38 2 false) (Code.cond (Operand.tmp 9) Code.skip (Code.exit 0))) (Code.seq (Code.block 1 (Code.seq (cr Try.f38 4 false) (Code.seq (cr Try.f38 5 false) (Code.seq (cr Try.f38 6 false) (Code.seq (cr Try.f38 7 false) (cr Try.f38 8 false)))))) (cr Try.f38 3 false)))))) (Code.seq (cr Try.f38 9 false) Code.ret))) := by kernel_rfl
theorem markNdS_sat {w0 w : World} {Rs : List Asn} {o : Sl} {us : List NdS} {k0 : Int} (hS : Sat w0 w (SX.row (.slice o.A o.n o.c) 71 3 (encN us) :: jW (us.map ownN) :: Rs)) (hl : us.length ≤ 12) (hp : ∀ x ∈ us, x.pts.length ≤ 1) (h0 : 0 ≤ k0 ∧ k0 ≤ 1) :
  Calls Try.prog 38 #[.slice o.A o.n o.c, .int .i64 k0] w (Ret fun r w' => r = .int .i64 (k0 + wdN us) ∧ Sat w0 w' (SX.row (.slice o.A o.n o.c) 71 3 (encN (mkNs k0 us)) :: jW ((mkNs k0 us).map ownN) :: Rs)) := by
 have hn1 : o.n = us.length := hS.rowL (s := o) (enc := cellsN) 0 cellsN_len (by decide) rfl
 refine enter (n := 34) Try.func38 code38 (by kernel_rfl) (Nat.le_of_ble_eq_true rfl) (fun a ha => ?_)
 replace ha : Has 34 [(0, .slice o.A o.n o.c), (1, iv k0)] a := ha
 refine wp_seq (jX [0] (jQ [(0, 4, iv 0)] ha fun a ha => ?_))
 refine jY (jJ (wp_seq (wp_seq (jX [0] (jQ [(0, 5, iv 0)] ha fun a ha => ?_)))))
 refine jY (jJ (wp_block ?_))
 replace hS : Sat w0 w ((SX.row (.slice o.A o.n o.c) 71 3 (encN (mkNs k0 (us.take 0) ++ us.drop 0))) :: (jW ((mkNs k0 (us.take 0) ++ us.drop 0).map ownN)) :: Rs) := hS
 refine wp_loop_ghost (fun n_ a_ w_ => ∃ (i : Nat) (k : Int), n_ = us.length - i ∧ (i ≤ us.length) ∧ (k = k0 + wdN (us.take i)) ∧ (0 ≤ k ∧ k ≤ 1 + 3 * (i : Int)) ∧ Has 34 [(0, .slice o.A o.n o.c), (4, iv 0), (5, iv (i : Int)), (1, iv k)] a_ ∧ Sat w0 w_ ((SX.row (.slice o.A o.n o.c) 71 3 (encN (mkNs k0 (us.take i) ++ us.drop i))) :: (jW ((mkNs k0 (us.take i) ++ us.drop i).map ownN)) :: Rs)) _ ⟨0, k0, rfl, Nat.zero_le _, by simp [wdN], ⟨by omega, by omega⟩, ha.keeps [0, 4, 5, 1] _ rfl, hS⟩ ?_
 rintro n_ a w ⟨i, k, rfl, hi, hk, hkb, ha, hS⟩
 refine wp_seq (wp_seq (jX [0, 1, 2, 3] (jQ [(0, 6, iv (i : Int)), (1, 7, .slice o.A o.n o.c), (2, 8, iv (o.n : Int)), (3, 9, .bool (decide ((i : Int) < (o.n : Int))))] ha fun a ha => ?_)))
 refine jY (jJ ?_)
 by_cases c1 : (i : Int) < (o.n : Int)
 ·
  obtain ⟨x, hx⟩ : ∃ x, us[i]? = some x := ⟨_, List.getElem?_eq_getElem (by omega)⟩
  have hxm : (mkNs k0 (us.take i) ++ us.drop i)[i]? = some x := mkNs_here hx
  refine jG ha rfl (decide_eq_true c1) ?_
  refine wp_skip (jJ (wp_seq (wp_block (wp_seq (jX [0, 1, 2, 3, 4, 5] (jQ [(0, 12, .slice o.A o.n o.c), (1, 13, iv (i : Int)), (2, 14, iv k)] ha fun a ha => ?_))))))
  refine xU (.pointer (some ⟨bk o, i * 3, none⟩)) ha (xW (s := o) (el := 71) (sz := 3) (j := i) ha (yU (t := 33) (x := 12) (y := 13) (d := 15)) rfl rfl (by kernel_rfl) (by kernel_rfl) (hS.rowA (s := o) 0 rfl (by have := (List.getElem?_eq_some_iff.1 hxm).1; rw [encN_length]; omega)) (rfl) (by have h9 := hS.rowL (s := o) (enc := cellsN) 0 cellsN_len (by decide) rfl; have := (List.getElem?_eq_some_iff.1 hxm).1; omega)) fun a ha => ?_
  refine jQ [(4, 16, .pointer (some ⟨bk o, i * 3, none⟩))] ha fun a ha => ?_
  refine jZ (zZ (s := o) (j := i * 3 + 0) (xs := encN (mkNs k0 (us.take i) ++ us.drop i)) (xs' := encN ((mkNs k0 (us.take i) ++ us.drop i).set i ({ x with kd := k } : NdS))) 0 ha (qU (t := 3) (x := 16) (y := 14)) rfl rfl rfl (by kernel_rfl) hS rfl (by have := (List.getElem?_eq_some_iff.1 hxm).1; rw [encN_length]; omega) ((flat_set (enc := cellsN) (x' := ({ x with kd := k } : NdS)) cellsN_len hxm (by decide) rfl)) (fun w a (hS : Sat w0 w ((SX.row (.slice o.A o.n o.c) 71 3 (encN ((mkNs k0 (us.take i) ++ us.drop i).set i ({ x with kd := k } : NdS)))) :: (jW ((mkNs k0 (us.take i) ++ us.drop i).map ownN)) :: Rs)) ha => ?_))
  refine jY (jJ (wp_seq (jX [0, 1, 2] (jQ [(0, 17, iv k)] ha fun a ha => ?_))))
  refine zJ 18 (k + 1) ha fun a ha => ?_
  refine jQ [(2, 1, iv (k + 1))] ha fun a ha => ?_
  refine jY (jJ (wp_seq (jX [0, 1, 2, 3, 4, 5] (jQ [(0, 19, .slice o.A o.n o.c), (1, 20, iv (i : Int)), (2, 21, iv (k + 1))] ha fun a ha => ?_))))
  refine xU (.pointer (some ⟨bk o, i * 3, none⟩)) ha (xW (s := o) (el := 71) (sz := 3) (j := i) ha (yU (t := 33) (x := 19) (y := 20) (d := 22)) rfl rfl (by kernel_rfl) (by kernel_rfl) (hS.rowA (s := o) 0 rfl (by have := (List.getElem?_eq_some_iff.1 (set_get hxm ({ x with kd := k } : NdS))).1; rw [encN_length]; omega)) (rfl) (by have h9 := hS.rowL (s := o) (enc := cellsN) 0 cellsN_len (by decide) rfl; have := (List.getElem?_eq_some_iff.1 (set_get hxm ({ x with kd := k } : NdS))).1; omega)) fun a ha => ?_
  refine jQ [(4, 23, .pointer (some ⟨bk o, i * 3 + 1, none⟩))] ha fun a ha => ?_
  refine jZ (zZ (s := o) (j := i * 3 + 1) (xs := encN ((mkNs k0 (us.take i) ++ us.drop i).set i ({ x with kd := k } : NdS))) (xs' := encN ((mkNs k0 (us.take i) ++ us.drop i).set i ({ x with kd := k, cd := k + 1 } : NdS))) 0 ha (qU (t := 3) (x := 23) (y := 21)) rfl rfl rfl (by kernel_rfl) hS rfl (by have := (List.getElem?_eq_some_iff.1 (set_get hxm ({ x with kd := k } : NdS))).1; rw [encN_length]; omega) ((flat_set (enc := cellsN) (x' := ({ x with kd := k, cd := k + 1 } : NdS)) cellsN_len (set_get hxm ({ x with kd := k } : NdS)) (by decide) rfl).trans (by rw [List.set_set]; rfl)) (fun w a (hS : Sat w0 w ((SX.row (.slice o.A o.n o.c) 71 3 (encN ((mkNs k0 (us.take i) ++ us.drop i).set i ({ x with kd := k, cd := k + 1 } : NdS)))) :: (jW ((mkNs k0 (us.take i) ++ us.drop i).map ownN)) :: Rs)) ha => ?_))
  refine jY (jJ (wp_seq (jX [0, 1, 2] (jQ [(0, 24, iv (k + 1))] ha fun a ha => ?_))))
  refine zJ 25 ((k + 1) + 1) ha fun a ha => ?_
  refine jQ [(2, 1, iv ((k + 1) + 1))] ha fun a ha => ?_
  refine jY (jJ ?_)
  replace hS := hS.pickN 2 [1, 0]
  replace hS : Sat w0 w ((rI x.sl x.pts) :: (jW (((mkNs k0 (us.take i) ++ us.drop i).eraseIdx i).map ownN)) :: (SX.row (.slice o.A o.n o.c) 71 3 (encN ((mkNs k0 (us.take i) ++ us.drop i).set i ({ x with kd := k, cd := k + 1 } : NdS)))) :: Rs) := by have hh : Sat w0 w (SX.row (.slice x.sl.A x.sl.n x.sl.c) 3 1 (encJ x.pts) :: _) := Sat.takeAt (g := ownN) hxm hS; rw [← encJ_I] at hh; exact hh
  have hpx := hp x (List.mem_of_getElem? hx)
  refine jX [0, 1, 2, 3, 4, 5, 6, 7] (jQ [(0, 26, .slice o.A o.n o.c), (1, 27, iv (i : Int))] ha fun a ha => ?_)
  refine xU (.pointer (some ⟨bk o, i * 3, none⟩)) ha (xW (s := o) (el := 71) (sz := 3) (j := i) ha (yU (t := 33) (x := 26) (y := 27) (d := 28)) rfl rfl (by kernel_rfl) (by kernel_rfl) (hS.rowA (s := o) 2 rfl (by have := (List.getElem?_eq_some_iff.1 (set_get hxm ({ x with kd := k, cd := k + 1 } : NdS))).1; rw [encN_length]; omega)) (rfl) (by have h9 := hS.rowL (s := o) (enc := cellsN) 2 cellsN_len (by decide) rfl; have := (List.getElem?_eq_some_iff.1 (set_get hxm ({ x with kd := k, cd := k + 1 } : NdS))).1; omega)) fun a ha => ?_
  refine jQ [(3, 29, .pointer (some ⟨bk o, i * 3 + 2, none⟩))] ha fun a ha => ?_
  refine xU (.slice x.sl.A x.sl.n x.sl.c) ha (zK ha (zV (t := 49) (x := 29) (d := 30) (ty := 49)) rfl (by kernel_rfl) (fun w' hw => by rw [hw]; exact (hS.rdC (s := o) 2 rfl).cells _ _ ((flat_get (enc := cellsN) (o := 2) cellsN_len (set_get hxm ({ x with kd := k, cd := k + 1 } : NdS)) (by decide)).trans rfl))) fun a ha => ?_
  refine jQ [(5, 31, iv ((k + 1) + 1))] ha fun a ha => ?_
  refine jZ (qG 32 (vs := [.slice x.sl.A x.sl.n x.sl.c, iv ((k + 1) + 1)]) ha (markG_sat hS (by omega) (by omega) (by omega)) fun v2 w a hp3 ha => ?_)
  obtain ⟨rfl, hS⟩ := hp3
  refine jQ [(7, 1, iv (((k + 1) + 1) + (x.pts.length : Int)))] ha fun a ha => ?_
  refine jY (in_n (jJ (jX [0, 1, 2] (jQ [(0, 10, iv (i : Int))] ha fun a ha => ?_))))
  refine zJ 11 ((i : Int) + 1) ha fun a ha => ?_
  refine jQ [(2, 5, iv ((i : Int) + 1))] ha fun a ha => ?_
  refine jY (jJ ?_)
  replace hS : Sat w0 w ((rI x.sl (mkG (k + 1 + 1) x.pts.length)) :: (jW (((mkNs k0 (us.take i) ++ us.drop i).eraseIdx i).map ownN)) :: (SX.row (.slice o.A o.n o.c) 71 3 (encN ((mkNs k0 (us.take i) ++ us.drop i).set i ({ x with kd := k, cd := k + 1 } : NdS)))) :: Rs) := hS
  replace hS : Sat w0 w ((SX.row (.slice x.sl.A x.sl.n x.sl.c) 3 1 (encJ (mkG (k + 2) x.pts.length))) :: (jW (((mkNs k0 (us.take i) ++ us.drop i).eraseIdx i).map ownN)) :: (SX.row (.slice o.A o.n o.c) 71 3 (encN ((mkNs k0 (us.take i) ++ us.drop i).set i ({ x with kd := k, cd := k + 1 } : NdS)))) :: Rs) := by rw [← encJ_I]; rw [show k + 1 + 1 = k + 2 by omega] at hS; exact hS
  replace hS : Sat w0 w ((SX.row (.slice x.sl.A x.sl.n x.sl.c) 3 1 (encJ (mkG (k + 2) x.pts.length))) :: (jW (((mkNs k0 (us.take i) ++ us.drop i).eraseIdx i).map ownN)) :: (SX.row (.slice o.A o.n o.c) 71 3 (encN ((mkNs k0 (us.take i) ++ us.drop i).set i ({ x with kd := k, cd := k + 1 } : NdS)))) :: Rs) := hS
  replace hS : Sat w0 w ((jW (((mkNs k0 (us.take i) ++ us.drop i).set i (⟨k, k + 1, x.sl, mkG (k + 2) x.pts.length⟩ : NdS)).map ownN)) :: (SX.row (.slice o.A o.n o.c) 71 3 (encN ((mkNs k0 (us.take i) ++ us.drop i).set i ({ x with kd := k, cd := k + 1 } : NdS)))) :: Rs) := Sat.putAt (g := ownN) (y := (⟨k, k + 1, x.sl, mkG (k + 2) x.pts.length⟩ : NdS)) hxm hS
  replace hS := hS.pickN 2 [1, 0]
  replace hS : Sat w0 w ((SX.row (.slice o.A o.n o.c) 71 3 (encN (mkNs k0 (us.take (i + 1)) ++ us.drop (i + 1)))) :: (jW ((mkNs k0 (us.take (i + 1)) ++ us.drop (i + 1)).map ownN)) :: Rs) := by rw [← mkNs_next hx hk]; rw [encN_same (a := (⟨k, k + 1, x.sl, mkG (k + 2) x.pts.length⟩ : NdS)) (b := ({ x with kd := k, cd := k + 1 } : NdS)) rfl rfl rfl]; exact hS
  have hkn : ((k + 1) + 1) + (x.pts.length : Int) = k0 + wdN (us.take (i + 1)) := by rw [take_snoc hx, wdN_snoc]; omega
  have hpx := hp x (List.mem_of_getElem? hx)
  exact ⟨_, by omega, i + 1, ((k + 1) + 1) + (x.pts.length : Int), rfl, by omega, hkn, ⟨by omega, by omega⟩, ha.keeps [0, 4, 5, 1] _ rfl, hS⟩
 refine jV ha rfl (decide_eq_false c1) ?_
 refine wp_exit (yX (yX (in_x (jJ (wp_seq (jX [0, 1] (jQ [(0, 33, iv k), (1, 4, iv k)] ha fun a ha => ?_)))))))
 refine jY (jJ (wp_ret (qK ha (by kernel_rfl) (yJ (t := 4) ha rfl) ?_)))
 have hie : i = us.length := by omega
 rw [hie, List.take_length, List.drop_length, List.append_nil] at hS
 rw [hie, List.take_length] at hk
 rw [← hk]
 exact ⟨rfl, hS⟩
theorem code19 : Try.f19.body = some (Code.seq (cr Try.f19 0 false) (Code.seq (cr Try.f19 1 false) (Code.seq (cr Try.f19 2 false) Code.ret))) := by kernel_rfl
theorem markErr_sat {w0 w : World} {Rs : List Asn} {o : Sl} {us : List NdS} {k0 : Int} (hS : Sat w0 w (SX.row (.slice o.A o.n o.c) 71 3 (encN us) :: jW (us.map ownN) :: Rs)) (hl : us.length ≤ 12) (hp : ∀ x ∈ us, x.pts.length ≤ 1) (h0 : 0 ≤ k0 ∧ k0 ≤ 1) :
  Calls Try.prog 19 #[.agg #[.slice o.A o.n o.c], .int .i64 k0] w (Ret fun r w' => r = .int .i64 (k0 + wdN us) ∧ Sat w0 w' (SX.row (.slice o.A o.n o.c) 71 3 (encN (mkNs k0 us)) :: jW ((mkNs k0 us).map ownN) :: Rs)) := by
 refine enter (n := 10) Try.func19 code19 (by kernel_rfl) (Nat.le_of_ble_eq_true rfl) (fun a ha => ?_)
 replace ha : Has 10 [(0, .agg #[.slice o.A o.n o.c]), (1, iv k0)] a := ha
 refine wp_seq (jX [0, 1] (jZ (qJ 2 [.slice o.A o.n o.c] 35 (ptr · 0) ha hS fun b1 w a hb2 hS ha => ?_)))
 refine jQ [(1, 4, iv 0)] ha fun a ha => ?_
 refine jY (jJ (wp_seq (jX [0, 1, 2, 3, 4] (jQ [(0, 5, ptr b1 0)] ha fun a ha => ?_))))
 refine jU (d := 6) (b := b1) (j := 0) ha (hS.blk 0 rfl) rfl fun a ha => ?_
 refine jQ [(2, 7, iv k0)] ha fun a ha => ?_
 replace hS := hS.pickN 3 [1, 2, 0]
 refine jZ (qG 8 (vs := [.slice o.A o.n o.c, iv k0]) ha (markNdS_sat hS hl hp h0) fun v3 w a hp4 ha => ?_)
 obtain ⟨rfl, hS⟩ := hp4
 refine jQ [(4, 1, iv (k0 + wdN us))] ha fun a ha => ?_
 refine jY (jJ (wp_seq (jX [0, 1] (jQ [(0, 9, iv (k0 + wdN us)), (1, 4, iv (k0 + wdN us))] ha fun a ha => ?_))))
 refine jY (jJ (wp_ret (qK ha (by kernel_rfl) (yJ (t := 4) ha rfl) ?_)))
 exact ⟨rfl, hS.pickN 3 [0, 1]⟩
theorem code39 : Try.f39.body = some (Code.seq (cr Try.f39 0 false) (Code.seq (Code.seq (cr Try.f39 1 false) (Code.block 0 (Code.loop (Code.seq (Code.seq (cr Try.f39 2 false) (Code.cond (Operand.tmp 9) Code.skip (Code.exit 0))) (Code.seq (Code.block 1 (Code.seq (Code.seq (cr Try.f39 4 false) (Code.cond (Operand.tmp 18) (Code.seq (cr Try.f39 5 false) Code.ret) Code.skip)) (Code.seq (cr Try.f39 6 false) (Code.seq (Code.seq (cr Try.f39 7 false) (Code.cond (Operand.tmp 27) (Code.seq (cr Try.f39 8 false) Code.ret) Code.skip)) (Code.seq (cr Try.f39 9 false) (Code.seq (cr Try.f39 10 false) (Code.seq (cr Try.f39 11 false) (Code.cond (Operand.tmp 38) (Code.seq (cr Try.f39 12 false) Code.ret) Code.skip)))))))) (cr Try.f39 3 false)))))) (Code.seq (cr Try.f39 13 false) Code.ret))) := by kernel_rfl
theorem heldNdS_sat {w0 w : World} {Rs : List Asn} {o : Sl} {us : List NdS} {k0 : Int} (hS : Sat w0 w (SX.row (.slice o.A o.n o.c) 71 3 (encN (mkNs k0 us)) :: jW ((mkNs k0 us).map ownN) :: Rs)) (hl : us.length ≤ 12) (hp : ∀ x ∈ us, x.pts.length ≤ 1) (h0 : 0 ≤ k0 ∧ k0 ≤ 1) :
  Calls Try.prog 39 #[.slice o.A o.n o.c, .int .i64 k0] w (Ret fun r w' => r = .int .i64 (k0 + wdN us) ∧ Sat w0 w' (SX.row (.slice o.A o.n o.c) 71 3 (encN (mkNs k0 us)) :: jW ((mkNs k0 us).map ownN) :: Rs)) := by
 have hn1 : o.n = us.length := by have h9 := hS.rowL (s := o) (enc := cellsN) 0 cellsN_len (by decide) rfl; rw [mkNs_len] at h9; exact h9
 refine enter (n := 40) Try.func39 code39 (by kernel_rfl) (Nat.le_of_ble_eq_true rfl) (fun a ha => ?_)
 replace ha : Has 40 [(0, .slice o.A o.n o.c), (1, iv k0)] a := ha
 refine wp_seq (jX [0] (jQ [(0, 4, iv 0)] ha fun a ha => ?_))
 refine jY (jJ (wp_seq (wp_seq (jX [0] (jQ [(0, 5, iv 0)] ha fun a ha => ?_)))))
 refine jY (jJ (wp_block ?_))
 refine wp_loop_ghost (fun n_ a_ w_ => ∃ (i : Nat) (k : Int), n_ = us.length - i ∧ (i ≤ us.length) ∧ (k = k0 + wdN (us.take i)) ∧ (0 ≤ k ∧ k ≤ 1 + 3 * (i : Int)) ∧ Has 40 [(0, .slice o.A o.n o.c), (4, iv 0), (5, iv (i : Int)), (1, iv k)] a_ ∧ Sat w0 w_ ((SX.row (.slice o.A o.n o.c) 71 3 (encN (mkNs k0 us))) :: (jW ((mkNs k0 us).map ownN)) :: Rs)) _ ⟨0, k0, rfl, Nat.zero_le _, by simp [wdN], ⟨by omega, by omega⟩, ha.keeps [0, 4, 5, 1] _ rfl, hS⟩ ?_
 rintro n_ a w ⟨i, k, rfl, hi, hk, hkb, ha, hS⟩
 refine wp_seq (wp_seq (jX [0, 1, 2, 3] (jQ [(0, 6, iv (i : Int)), (1, 7, .slice o.A o.n o.c), (2, 8, iv (o.n : Int)), (3, 9, .bool (decide ((i : Int) < (o.n : Int))))] ha fun a ha => ?_)))
 refine jY (jJ ?_)
 by_cases c1 : (i : Int) < (o.n : Int)
 ·
  obtain ⟨x, hx⟩ : ∃ x, us[i]? = some x := ⟨_, List.getElem?_eq_getElem (by omega)⟩
  have hxm : (mkNs k0 us)[i]? = some (⟨k, k + 1, x.sl, mkG (k + 2) x.pts.length⟩ : NdS) := mkNs_at hx hk
  refine jG ha rfl (decide_eq_true c1) ?_
  refine wp_skip (jJ (wp_seq (wp_block (wp_seq (wp_seq (jX [0, 1, 2, 3, 4, 5, 6] (jQ [(0, 12, .slice o.A o.n o.c), (1, 13, iv (i : Int))] ha fun a ha => ?_)))))))
  refine xU (.pointer (some ⟨bk o, i * 3, none⟩)) ha (xW (s := o) (el := 71) (sz := 3) (j := i) ha (yU (t := 33) (x := 12) (y := 13) (d := 14)) rfl rfl (by kernel_rfl) (by kernel_rfl) (hS.rowA (s := o) 0 rfl (by have := (List.getElem?_eq_some_iff.1 hxm).1; rw [encN_length]; omega)) (rfl) (by have h9 := hS.rowL (s := o) (enc := cellsN) 0 cellsN_len (by decide) rfl; have := (List.getElem?_eq_some_iff.1 hxm).1; omega)) fun a ha => ?_
  refine jQ [(3, 15, .pointer (some ⟨bk o, i * 3, none⟩))] ha fun a ha => ?_
  refine xU (iv k) ha (zK ha (zV (t := 3) (x := 15) (d := 16) (ty := 3)) rfl (by kernel_rfl) (fun w' hw => by rw [hw]; exact (hS.rdC (s := o) 0 rfl).cells _ _ ((flat_get (enc := cellsN) (o := 0) cellsN_len hxm (by decide)).trans rfl))) fun a ha => ?_
  refine jQ [(5, 17, iv k)] ha fun a ha => ?_
  refine xU (.bool false) ha ((qZ (v := .bool (!(decide (k = k)))) ha (zW (op := (Op.binOp BinOp.neq 3 (Operand.tmp 16) (Operand.tmp 17) 3)) (d := some 18) (ty := 4)) (by kernel_rfl) (fun _ => by kernel_rfl)).as (by simp)) fun a ha => ?_
  refine jY (jJ ?_)
  refine jV ha rfl rfl ?_
  refine wp_skip (jJ (wp_seq (jX [0, 1, 2] (jQ [(0, 19, iv k)] ha fun a ha => ?_))))
  refine zJ 20 (k + 1) ha fun a ha => ?_
  refine jQ [(2, 1, iv (k + 1))] ha fun a ha => ?_
  refine jY (jJ (wp_seq (wp_seq (jX [0, 1, 2, 3, 4, 5, 6] (jQ [(0, 21, .slice o.A o.n o.c), (1, 22, iv (i : Int))] ha fun a ha => ?_)))))
  refine xU (.pointer (some ⟨bk o, i * 3, none⟩)) ha (xW (s := o) (el := 71) (sz := 3) (j := i) ha (yU (t := 33) (x := 21) (y := 22) (d := 23)) rfl rfl (by kernel_rfl) (by kernel_rfl) (hS.rowA (s := o) 0 rfl (by have := (List.getElem?_eq_some_iff.1 hxm).1; rw [encN_length]; omega)) (rfl) (by have h9 := hS.rowL (s := o) (enc := cellsN) 0 cellsN_len (by decide) rfl; have := (List.getElem?_eq_some_iff.1 hxm).1; omega)) fun a ha => ?_
  refine jQ [(3, 24, .pointer (some ⟨bk o, i * 3 + 1, none⟩))] ha fun a ha => ?_
  refine xU (iv (k + 1)) ha (zK ha (zV (t := 3) (x := 24) (d := 25) (ty := 3)) rfl (by kernel_rfl) (fun w' hw => by rw [hw]; exact (hS.rdC (s := o) 0 rfl).cells _ _ ((flat_get (enc := cellsN) (o := 1) cellsN_len hxm (by decide)).trans rfl))) fun a ha => ?_
  refine jQ [(5, 26, iv (k + 1))] ha fun a ha => ?_
  refine xU (.bool false) ha ((qZ (v := .bool (!(decide (k + 1 = k + 1)))) ha (zW (op := (Op.binOp BinOp.neq 3 (Operand.tmp 25) (Operand.tmp 26) 3)) (d := some 27) (ty := 4)) (by kernel_rfl) (fun _ => by kernel_rfl)).as (by simp)) fun a ha => ?_
  refine jY (jJ ?_)
  refine jV ha rfl rfl ?_
  refine wp_skip (jJ (wp_seq (jX [0, 1, 2] (jQ [(0, 28, iv (k + 1))] ha fun a ha => ?_))))
  refine zJ 29 ((k + 1) + 1) ha fun a ha => ?_
  refine jQ [(2, 1, iv ((k + 1) + 1))] ha fun a ha => ?_
  refine jY (jJ (wp_seq (jX [0, 1, 2, 3, 4, 5, 6, 7] (jQ [(0, 30, .slice o.A o.n o.c), (1, 31, iv (i : Int))] ha fun a ha => ?_))))
  refine xU (.pointer (some ⟨bk o, i * 3, none⟩)) ha (xW (s := o) (el := 71) (sz := 3) (j := i) ha (yU (t := 33) (x := 30) (y := 31) (d := 32)) rfl rfl (by kernel_rfl) (by kernel_rfl) (hS.rowA (s := o) 0 rfl (by have := (List.getElem?_eq_some_iff.1 hxm).1; rw [encN_length]; omega)) (rfl) (by have h9 := hS.rowL (s := o) (enc := cellsN) 0 cellsN_len (by decide) rfl; have := (List.getElem?_eq_some_iff.1 hxm).1; omega)) fun a ha => ?_
  refine jQ [(3, 33, .pointer (some ⟨bk o, i * 3 + 2, none⟩))] ha fun a ha => ?_
  refine xU (.slice x.sl.A x.sl.n x.sl.c) ha (zK ha (zV (t := 49) (x := 33) (d := 34) (ty := 49)) rfl (by kernel_rfl) (fun w' hw => by rw [hw]; exact (hS.rdC (s := o) 0 rfl).cells _ _ ((flat_get (enc := cellsN) (o := 2) cellsN_len hxm (by decide)).trans rfl))) fun a ha => ?_
  refine jQ [(5, 35, iv ((k + 1) + 1))] ha fun a ha => ?_
  refine jZ (qG 36 (vs := [.slice x.sl.A x.sl.n x.sl.c, iv ((k + 1) + 1)]) ha (heldI_sat (k0 := k + 1 + 1) hS (by have h9 := starRd (us := mkNs k0 us) (hS.pickN 2 [1]) hxm; rw [show k + 1 + 1 = k + 2 by omega]; exact h9) (by have := hp x (List.mem_of_getElem? hx); omega) (by omega) (by omega)) fun v2 w a hp3 ha => ?_)
  obtain ⟨rfl, hS⟩ := hp3
  refine jQ [(7, 1, iv (((k + 1) + 1) + (x.pts.length : Int)))] ha fun a ha => ?_
  refine jY (jJ (wp_seq (jX [0, 1] (jQ [(0, 37, iv (((k + 1) + 1) + (x.pts.length : Int))), (1, 38, .bool (decide ((((k + 1) + 1) + (x.pts.length : Int)) < 0)))] ha fun a ha => ?_))))
  refine jY (jJ ?_)
  by_cases c4 : (((k + 1) + 1) + (x.pts.length : Int)) < 0
  ·
   exfalso; omega
  refine jV ha rfl (decide_eq_false c4) ?_
  refine wp_skip (in_n (jJ (jX [0, 1, 2] (jQ [(0, 10, iv (i : Int))] ha fun a ha => ?_))))
  refine zJ 11 ((i : Int) + 1) ha fun a ha => ?_
  refine jQ [(2, 5, iv ((i : Int) + 1))] ha fun a ha => ?_
  refine jY (jJ ?_)
  have hkn : ((k + 1) + 1) + (x.pts.length : Int) = k0 + wdN (us.take (i + 1)) := by rw [take_snoc hx, wdN_snoc]; omega
  have hpx := hp x (List.mem_of_getElem? hx)
  exact ⟨_, by omega, i + 1, ((k + 1) + 1) + (x.pts.length : Int), rfl, by omega, hkn, ⟨by omega, by omega⟩, ha.keeps [0, 4, 5, 1] _ rfl, hS⟩
 refine jV ha rfl (decide_eq_false c1) ?_
 refine wp_exit (yX (yX (in_x (jJ (wp_seq (jX [0, 1] (jQ [(0, 39, iv k), (1, 4, iv k)] ha fun a ha => ?_)))))))
 refine jY (jJ (wp_ret (qK ha (by kernel_rfl) (yJ (t := 4) ha rfl) ?_)))
 have hie : i = us.length := by omega
 rw [hie, List.take_length] at hk
 rw [← hk]
 exact ⟨rfl, hS⟩
theorem code20 : Try.f20.body = some (Code.seq (cr Try.f20 0 false) (Code.seq (cr Try.f20 1 false) (Code.seq (Code.seq (cr Try.f20 2 false) (Code.cond (Operand.tmp 10) (Code.seq (cr Try.f20 3 false) Code.ret) Code.skip)) (Code.seq (cr Try.f20 4 false) Code.ret)))) := by kernel_rfl
theorem heldErr_sat {w0 w : World} {Rs : List Asn} {o : Sl} {us : List NdS} {k0 : Int} (hS : Sat w0 w (SX.row (.slice o.A o.n o.c) 71 3 (encN (mkNs k0 us)) :: jW ((mkNs k0 us).map ownN) :: Rs)) (hl : us.length ≤ 12) (hp : ∀ x ∈ us, x.pts.length ≤ 1) (h0 : 0 ≤ k0 ∧ k0 ≤ 1) :
  Calls Try.prog 20 #[.agg #[.slice o.A o.n o.c], .int .i64 k0] w (Ret fun r w' => r = .int .i64 (k0 + wdN us) ∧ Sat w0 w' (SX.row (.slice o.A o.n o.c) 71 3 (encN (mkNs k0 us)) :: jW ((mkNs k0 us).map ownN) :: Rs)) := by
 refine enter (n := 12) Try.func20 code20 (by kernel_rfl) (Nat.le_of_ble_eq_true rfl) (fun a ha => ?_)
 replace ha : Has 12 [(0, .agg #[.slice o.A o.n o.c]), (1, iv k0)] a := ha
 refine wp_seq (jX [0, 1] (jZ (qJ 2 [.slice o.A o.n o.c] 35 (ptr · 0) ha hS fun b1 w a hb2 hS ha => ?_)))
 refine jQ [(1, 4, iv 0)] ha fun a ha => ?_
 refine jY (jJ (wp_seq (jX [0, 1, 2, 3, 4] (jQ [(0, 5, ptr b1 0)] ha fun a ha => ?_))))
 refine jU (d := 6) (b := b1) (j := 0) ha (hS.blk 0 rfl) rfl fun a ha => ?_
 refine jQ [(2, 7, iv k0)] ha fun a ha => ?_
 replace hS := hS.pickN 3 [1, 2, 0]
 refine jZ (qG 8 (vs := [.slice o.A o.n o.c, iv k0]) ha (heldNdS_sat hS hl hp h0) fun v3 w a hp4 ha => ?_)
 obtain ⟨rfl, hS⟩ := hp4
 refine jQ [(4, 1, iv (k0 + wdN us))] ha fun a ha => ?_
 refine jY (jJ (wp_seq (wp_seq (jX [0, 1] (jQ [(0, 9, iv (k0 + wdN us)), (1, 10, .bool (decide ((k0 + wdN us) < 0)))] ha fun a ha => ?_)))))
 refine jY (jJ ?_)
 by_cases c5 : (k0 + wdN us) < 0
 ·
  have h9 := wdN_le hp
  exfalso; omega
 refine jV ha rfl (decide_eq_false c5) ?_
 refine wp_skip (jJ (wp_seq (jX [0, 1] (jQ [(0, 11, iv (k0 + wdN us)), (1, 4, iv (k0 + wdN us))] ha fun a ha => ?_))))
 refine jY (jJ (wp_ret (qK ha (by kernel_rfl) (yJ (t := 4) ha rfl) ?_)))
 exact ⟨rfl, hS.pickN 3 [0, 1]⟩
end Go.Proofs.Ytcbijhgepdedpaa.G
