/- What the claim FnExactTriesNeeded rests on, part 14 of 19; the last part proves it: for every input the law answers true, and its arguments read behind the call as before it. No condition. -/
import Derived.Test.YtdbbafepjgnmeaaQTriesNeeded8
import Derived.Test.YtdbbafepjgnmeaaQTriesNeeded13
section
namespace Go.Proofs.Ytdbbafepjgnmeaa
namespace SX
open Go.RowKit
set_option linter.unusedVariables false
set_option linter.unusedSimpArgs false
theorem laidOut : laidOutB Try.prog = true := by kernel_rfl
theorem placesLaw : WideMaps.KeyLaw Try.prog 153 := deep_law_laid laidOut (m := 2) (by omega) (of_decide_eq_true (by kernel_rfl)) (by kernel_rfl) (by kernel_rfl)
theorem placesKey (p : Int × Int) (h : small p) : ∃ l, keyOf Try.prog 153 (keyV p) = some l := keyOf2 (D := Try.prog.types.size - 1) (e := 3) (by kernel_rfl) (by kernel_rfl) (by kernel_rfl) (by kernel_rfl) (by kernel_rfl) (by kernel_rfl) p h
theorem code122 : Try.f122.body = some (Code.seq (Code.region 0 (regOf Try.f122 0) true) (Code.seq (Code.region 1 (regOf Try.f122 1) false) (Code.block 0 (Code.loop (Code.seq (Code.seq (Code.region 2 (regOf Try.f122 2) false) (Code.cond (Operand.tmp 21) Code.skip (Code.exit 0))) (Code.block 1 (Code.seq (Code.seq (Code.region 3 (regOf Try.f122 3) true) (Code.cond (Operand.tmp 30) (Code.region 4 (regOf Try.f122 4) false) Code.skip)) (Code.seq (Code.region 5 (regOf Try.f122 5) false) (Code.seq (Code.region 6 (regOf Try.f122 6) true) (Code.seq (Code.region 7 (regOf Try.f122 7) false) (Code.seq (Code.region 8 (regOf Try.f122 8) false) (Code.seq (Code.seq (Code.region 9 (regOf Try.f122 9) false) (Code.cond (Operand.tmp 58) (Code.seq (Code.seq (Code.region 10 (regOf Try.f122 10) true) (Code.cond (Operand.tmp 66) (Code.region 11 (regOf Try.f122 11) false) Code.skip)) (Code.exit 1)) Code.skip)) (Code.seq (Code.region 12 (regOf Try.f122 12) false) (Code.cond (Operand.tmp 72) Code.ret Code.skip)))))))))))))) := by kernel_rfl
set_option maxRecDepth 20000 in
set_option maxHeartbeats 1000000 in
theorem body_calls (P : List (List Stp)) (hP : ProgOk P) (d : Nat) (fuel : Int) (bm : Nat) (pv : Sl) (sbs : List Sl) (IH : CallC P fuel bm pv sbs d) (w0 w : World) (Rs : List Asn) (bf : Nat) (m : MS) (f : FS) (fpv qv : Value) (p : Option FS) (o : Int) (x : Nat) (hS : Sat w0 w (mch bm pv fuel m :: frm bf f fpv :: parA fpv qv (setR1 p o) :: Rs)) (hm : OkM fuel m (2 * f.runs.length + x)) (hf : OkF P.length m f) (hdep : m.depth + d = 8) (hd0 : 0 ≤ m.depth) (hdp : f.dfr = true → p.isSome = true) (hp : OkP m p) (hPr : Keeps w0 Rs (fun w => RdProg w pv sbs P)) :
    Calls Try.prog 122 #[.pointer (some ⟨bm, 0, none⟩), .pointer (some ⟨bf, 0, none⟩)] w (bodyPost_ w0 bm bf pv fuel Rs fpv qv p (bodyS fuel (callS P fuel d) (P.getD f.fn.toNat []) p (fuel - m.made).toNat.succ m f o 0)) := by
  obtain ⟨body, hbody⟩ := get_int P hf.fn0 hf.fn1
  obtain ⟨sb, hbn, hbA, hsb⟩ := RdProg.body hPr (Sat.rest [mch bm pv fuel m, frm bf f fpv, parA fpv qv (setR1 p o)] hS) hbody
  have hpn := (hPr w (Sat.rest [mch bm pv fuel m, frm bf f fpv, parA fpv qv (setR1 p o)] hS)).len
  have hpA := (hPr w (Sat.rest [mch bm pv fuel m, frm bf f fpv, parA fpv qv (setR1 p o)] hS)).A (by have := hP.some_; omega)
  have hPb : P.getD f.fn.toNat [] = body := by rw [List.getD_eq_getElem?_getD, hbody]; rfl
  have hbm := List.mem_of_getElem? hbody
  have hsteps := hP.steps body hbm
  have hb8 := hP.short body hbm
  rw [hPb]
  generalize hR : bodyS fuel (callS P fuel d) body p (fuel - m.made).toNat.succ m f o 0 = R_
  obtain ⟨s, t, hs, hS⟩ := hS.openMF
  replace hS : Sat w0 w ((MB bm pv fuel m.made m.shared m.depth m.deepest s.tr s.ow s.ca s.pa s.re s.bp) :: (rE s.tr m.trace) :: (rI s.ow m.owners) :: (rC s.ca m.calls) :: (rP s.pa s.us) :: (starL (unwL s.us)) :: (rV s.re m.recs) :: (mapA s.bp m.places) :: (FB bf f.id f.fn f.r0 f.r1 f.r2 f.r3 t (fpv) f.dfr f.cnt f.lvg f.en f.pan) :: (rQ t f.runs) :: (parA fpv qv (setR1 p o)) :: Rs) := hS
  refine enter (n := 73) Try.func122 code122 (by kernel_rfl) (Nat.le_of_ble_eq_true rfl) (fun a ha => ?_)
  replace ha : Has 73 [(0, ptr bm 0), (1, ptr bf 0)] a := ha
  refine wp_seq ?_
  refine d_start 12 12 hS fun w hS => ?_
  refine d_run (k := 8) [(0, 7, ptr bm 0), (1, 8, ptr bm 0), (2, 9, ptr bm 0), (3, 10, ptr bm 0)] ha (.inr hS) (pk_then (pk_body)) fun a ha => ?_
  refine d_ld 4 (d := 11) (b := bm) (j := 0) ha hS (pk_then (pk_body)) (fun _ hw => hw.blk 0 rfl) rfl fun a ha => ?_
  refine d_run (k := 4) [(5, 12, ptr bf 0), (6, 13, ptr bf 0), (7, 14, ptr bf 1)] ha (.inr hS) (pk_then (pk_body)) fun a ha => ?_
  refine d_ld 8 (d := 15) (b := bf) (j := 1) ha hS (pk_then (pk_body)) (fun _ hw => hw.blk 8 rfl) rfl fun a ha => ?_
  refine d_pure (i := 9) (v := .pointer (some ⟨bk pv, of_ pv + f.fn.toNat * 1, none⟩)) ha (by decide) (v_indexQ (s := pv) (el := 117) (sz := 1) (j := f.fn.toNat) ha (iAt (op := (Op.indexAddr 29 (Operand.tmp 11) (Operand.tmp 15))) (d := some 16) (ty := 0)) rfl rfl (by kernel_rfl) (by kernel_rfl) hpA (Int.toNat_of_nonneg hf.fn0).symm (by rw [hpn]; have := hf.fn1; have := hf.fn0; omega)) (.inr hS) (by kernel_rfl) (by kernel_rfl) (pk_then (pk_body)) fun a ha => ?_
  refine d_val (i := 10) (v := .slice sb.A sb.n sb.c) ha (by decide) (v_loadC (v := .slice sb.A sb.n sb.c) ha (iAt (op := (Op.load 117 (Operand.tmp 16))) (d := some 17) (ty := 117)) rfl (by kernel_rfl) (fun w' hw => by rw [Nat.mul_one]; exact ((hsb.more [_, _, _, _, _, _, _, _, _, _, _]) _ hw).1)) hS (by kernel_rfl) (by kernel_rfl) (pk_then (pk_body)) fun a ha => ?_
  refine d_run (k := 0) [(11, 4, .slice sb.A sb.n sb.c)] ha (.inr hS) (pk_then (pk_body)) fun a ha => ?_
  refine d_end (by kernel_rfl) ?_ _
  refine then_n ?_
  refine wp_seq ?_
  refine p_beginL [0] ?_
  refine p_run [(0, 5, iv 0)] ha fun a ha => ?_
  refine p_end ?_
  refine then_n ?_
  refine wp_block ?_
  replace hS : Sat w0 w ((MB bm pv fuel m.made m.shared m.depth m.deepest s.tr s.ow s.ca s.pa s.re s.bp) :: (rE s.tr m.trace) :: (rI s.ow m.owners) :: (rC s.ca m.calls) :: (rP s.pa s.us) :: (starL (unwL s.us)) :: (rV s.re m.recs) :: (mapA s.bp m.places) :: (FB bf f.id f.fn f.r0 f.r1 f.r2 f.r3 t (fpv) f.dfr f.cnt f.lvg f.en f.pan) :: (rQ t f.runs) :: (parA fpv qv (setR1 p o)) :: Rs) := hS
  obtain ⟨m_1, hm_1⟩ : ∃ z_ : MS, z_ = (⟨m.made, m.shared, m.depth, m.deepest, m.trace, m.owners, m.calls, m.panics, m.recs, m.places⟩ : MS) := ⟨_, rfl⟩
  replace hS : Sat w0 w ((mch bm pv fuel m_1) :: (FB bf f.id f.fn f.r0 f.r1 f.r2 f.r3 t (fpv) f.dfr f.cnt f.lvg f.en f.pan) :: (rQ t f.runs) :: (parA fpv qv (setR1 p o)) :: Rs) := by rw [hm_1]; exact Sat.shutM (⟨s.tr, s.ow, s.ca, s.pa, s.re, s.us, s.bp⟩ : MSl) (hs) hS
  replace hS : Sat w0 w ((FB bf f.id f.fn f.r0 f.r1 f.r2 f.r3 t (fpv) f.dfr f.cnt f.lvg f.en f.pan) :: (rQ t f.runs) :: (mch bm pv fuel m_1) :: (parA fpv qv (setR1 p o)) :: Rs) := hS.pickN 4 [1, 2, 0, 3] (by decide) rfl
  obtain ⟨f_1, hf_1⟩ : ∃ z_ : FS, z_ = (⟨f.id, f.fn, f.r0, f.r1, f.r2, f.r3, f.runs, f.dfr, f.cnt, f.lvg, f.en, f.pan⟩ : FS) := ⟨_, rfl⟩
  replace hS : Sat w0 w ((frm bf f_1 (fpv)) :: (mch bm pv fuel m_1) :: (parA fpv qv (setR1 p o)) :: Rs) := by rw [hf_1]; exact Sat.shutF t hS
  have e1 : m_1 = m := hm_1
  have e2 : f_1 = f := hf_1
  replace hS : Sat w0 w ((mch bm pv fuel m_1) :: (frm bf f_1 (fpv)) :: (parA fpv qv (setR1 p o)) :: Rs) := hS.pickN 3 [1, 0, 2] (by decide) rfl
  replace hS : Sat w0 w ((mch bm pv fuel m) :: (frm bf f fpv) :: (parA fpv qv (setR1 p o)) :: Rs) := by rw [e1, e2] at hS; exact hS
  refine wp_loop_ghost (fun n_ a_ w_ => ∃ (k : Nat) (m1 : MS) (f1 : FS) (o1 : Int) (at_ : Nat), n_ = (1 + k) ∧ (bodyS fuel (callS P fuel d) body p k m1 f1 o1 at_ = R_) ∧ ((fuel - m1.made).toNat < k) ∧ (OkM fuel m1 (2 * f1.runs.length + x)) ∧ (OkF P.length m1 f1) ∧ (Grew m m1) ∧ (f1.fn = f.fn) ∧ (f1.dfr = f.dfr) ∧ (at_ ≤ 8) ∧ Has 73 [(0, ptr bm 0), (1, ptr bf 0), (4, .slice sb.A sb.n sb.c), (5, iv (at_ : Int))] a_ ∧ Sat w0 w_ ((mch bm pv fuel m1) :: (frm bf f1 fpv) :: (parA fpv qv (setR1 p o1)) :: Rs)) _ ⟨_, m, f, o, 0, rfl, hR, Nat.lt_succ_self _, hm, hf, Grew.refl _, rfl, rfl, by omega, ha.keeps [0, 1, 4, 5] _ rfl, hS⟩ ?_
  -- the loop's round
  rintro n_ a w ⟨k, m1, f1, o1, at_, rfl, hR, hk, hok, hof, hgr, hfn, hfd, hat, ha, hS⟩
  obtain ⟨k, rfl⟩ : ∃ k', k = k' + 1 := ⟨k - 1, by omega⟩
  obtain ⟨s, t, hs, hS⟩ := Sat.openMF hS
  replace hS : Sat w0 w ((MB bm pv fuel m1.made m1.shared m1.depth m1.deepest s.tr s.ow s.ca s.pa s.re s.bp) :: (rE s.tr m1.trace) :: (rI s.ow m1.owners) :: (rC s.ca m1.calls) :: (rP s.pa s.us) :: (starL (unwL s.us)) :: (rV s.re m1.recs) :: (mapA s.bp m1.places) :: (FB bf f1.id f1.fn f1.r0 f1.r1 f1.r2 f1.r3 t (fpv) f1.dfr f1.cnt f1.lvg f1.en f1.pan) :: (rQ t f1.runs) :: (parA fpv qv (setR1 p o1)) :: Rs) := hS
  have hb0 := hok.made0
  have hb1 := hok.made1
  have hb2 := hok.fuel1
  refine wp_seq ?_
  refine wp_seq ?_
  refine p_beginL [0, 1, 2, 3] ?_
  refine p_run [(0, 18, iv (at_ : Int)), (1, 19, .slice sb.A sb.n sb.c), (2, 20, iv (sb.n : Int)), (3, 21, .bool (decide ((at_ : Int) < (sb.n : Int))))] ha fun a ha => ?_
  refine p_end ?_
  refine then_n ?_
  by_cases c1 : (at_ : Int) < (sb.n : Int)
  ·
    have hlt : at_ < body.length := by have := c1; omega
    obtain ⟨z, hz⟩ : ∃ z, body[at_]? = some z := ⟨_, List.getElem?_eq_getElem hlt⟩
    refine c_true ha rfl (decide_eq_true c1) ?_
    refine wp_skip ?_
    refine then_n ?_
    refine wp_block ?_
    refine wp_seq ?_
    refine wp_seq ?_
    refine d_start 9 9 hS fun w hS => ?_
    refine d_run (k := 6) [(0, 22, ptr bm 0), (1, 23, ptr bm 0), (2, 24, ptr bm 2)] ha (.inr hS) (pk_then (pk_then (pk_in (pk_then (pk_in (pk_body)))))) fun a ha => ?_
    refine d_ld 3 (d := 25) (b := bm) (j := 2) ha hS (pk_then (pk_then (pk_in (pk_then (pk_in (pk_body)))))) (fun _ hw => hw.blk 0 rfl) rfl fun a ha => ?_
    refine d_run (k := 2) [(4, 26, ptr bm 0), (5, 27, ptr bm 0), (6, 28, ptr bm 1)] ha (.inr hS) (pk_then (pk_then (pk_in (pk_then (pk_in (pk_body)))))) fun a ha => ?_
    refine d_ld 7 (d := 29) (b := bm) (j := 1) ha hS (pk_then (pk_then (pk_in (pk_then (pk_in (pk_body)))))) (fun _ hw => hw.blk 0 rfl) rfl fun a ha => ?_
    refine d_run (k := 0) [(8, 30, .bool (decide (m1.made = fuel)))] ha (.inr hS) (pk_then (pk_then (pk_in (pk_then (pk_in (pk_body)))))) fun a ha => ?_
    refine d_end (by kernel_rfl) ?_ _
    refine then_n ?_
    by_cases c2 : m1.made = fuel
    ·
      refine c_true ha rfl (decide_eq_true c2) ?_
      refine p_beginL [0, 1, 2] ?_
      refine p_run [(0, 31, .agg #[]), (1, 32, .iface 162 (.agg #[]))] ha fun a ha => ?_
      refine p_op (o_panic ha (iAt (op := (Op.panic (Operand.tmp 32))) (ty := 0)) rfl (then_p (in_p (then_p (in_p (?_))))))
      replace hS : Sat w0 w ((MB bm pv fuel m1.made m1.shared m1.depth m1.deepest s.tr s.ow s.ca s.pa s.re s.bp) :: (rE s.tr m1.trace) :: (rI s.ow m1.owners) :: (rC s.ca m1.calls) :: (rP s.pa s.us) :: (starL (unwL s.us)) :: (rV s.re m1.recs) :: (mapA s.bp m1.places) :: (FB bf f1.id f1.fn f1.r0 f1.r1 f1.r2 f1.r3 t (fpv) f1.dfr f1.cnt f1.lvg f1.en f1.pan) :: (rQ t f1.runs) :: (parA fpv qv (setR1 p o1)) :: Rs) := hS
      obtain ⟨m_2, hm_2⟩ : ∃ z_ : MS, z_ = (⟨m1.made, m1.shared, m1.depth, m1.deepest, m1.trace, m1.owners, m1.calls, m1.panics, m1.recs, m1.places⟩ : MS) := ⟨_, rfl⟩
      replace hS : Sat w0 w ((mch bm pv fuel m_2) :: (FB bf f1.id f1.fn f1.r0 f1.r1 f1.r2 f1.r3 t (fpv) f1.dfr f1.cnt f1.lvg f1.en f1.pan) :: (rQ t f1.runs) :: (parA fpv qv (setR1 p o1)) :: Rs) := by rw [hm_2]; exact Sat.shutM (⟨s.tr, s.ow, s.ca, s.pa, s.re, s.us, s.bp⟩ : MSl) (hs) hS
      refine ⟨ha.defers, m1, ?_, rfl, ?_⟩
      · rw [← hR]; simp [bodyS, hz, c2]
      · have e1 : m_2 = m1 := hm_2
        rw [e1] at hS
        exact hS.pickR (l := [_, FB bf f1.id f1.fn f1.r0 f1.r1 f1.r2 f1.r3 t (fpv) f1.dfr f1.cnt f1.lvg f1.en f1.pan, rQ t f1.runs, parA fpv qv (setR1 p o1)]) [0] (by decide) [_] rfl
    ·
      refine c_false ha rfl (decide_eq_false c2) ?_
      refine wp_skip ?_
      refine then_n ?_
      refine wp_seq ?_
      refine p_beginL [0, 1, 2, 3, 4, 5, 6, 7] ?_
      refine p_run [(0, 33, ptr bm 0), (1, 34, ptr bm 0), (2, 35, ptr bm 2)] ha fun a ha => ?_
      refine p_ld (d := 36) (b := bm) (j := 2) ha (hS.blk 0 rfl) rfl fun a ha => ?_
      refine p_val (v := iv (m1.made + 1)) ha (by decide) ((v_pure (v := .int .i64 (IntKind.i64.wrap (m1.made + 1))) ha (iAt (op := (Op.binOp BinOp.add 3 (Operand.tmp 36) (Operand.const (Value.int IntKind.i64 1)) 3)) (d := some 37) (ty := 3)) (by kernel_rfl) (fun _ => by kernel_rfl)).as (by rw [wrap_i64 (by omega) (by omega)])) (fun a ha => ?_)
      refine p_run [(5, 38, ptr bm 0), (6, 39, ptr bm 2)] ha fun a ha => ?_
      refine p_op (o_st bm 2 (iv (m1.made + 1)) 0 ha hS rfl rfl fun w a hS ha => ?_)
      refine p_end ?_
      refine then_n ?_
      refine wp_seq ?_
      refine d_start 10 11 hS fun w hS => ?_
      refine d_run (k := 8) [(0, 40, ptr bm 0), (1, 41, ptr bm 0), (2, 42, ptr bm 11)] ha (.inr hS) (pk_then (pk_in (pk_then (pk_in (pk_body))))) fun a ha => ?_
      refine d_ld 3 (d := 43) (b := bm) (j := 11) ha hS (pk_then (pk_in (pk_then (pk_in (pk_body))))) (fun _ hw => hw.blk 0 rfl) rfl fun a ha => ?_
      refine d_run (k := 4) [(4, 44, ptr bf 0), (5, 45, ptr bf 0), (6, 46, ptr bf 1)] ha (.inr hS) (pk_then (pk_in (pk_then (pk_in (pk_body))))) fun a ha => ?_
      refine d_ld 7 (d := 47) (b := bf) (j := 1) ha hS (pk_then (pk_in (pk_then (pk_in (pk_body))))) (fun _ hw => hw.blk 8 rfl) rfl fun a ha => ?_
      refine d_run (k := 1) [(8, 48, iv (at_ : Int)), (9, 49, .agg #[iv f1.fn, iv (at_ : Int)])] ha (.inr hS) (pk_then (pk_in (pk_then (pk_in (pk_body))))) fun a ha => ?_
      refine d_one (i := 10) (by kernel_rfl) (o_mapSet (kt := 153) (vt := 4) (q := (f1.fn, (at_ : Int))) 7 ha (iAt (op := (Op.mapUpdate 71 (Operand.tmp 43) (Operand.tmp 49) (Operand.const (Value.bool true)))) (ty := 0)) rfl rfl rfl placesLaw (by kernel_rfl) placesKey hS rfl (by have := hof.fn0; have := hof.fn1; have := hP.few; exact ⟨⟨by simp only []; omega, by simp only []; omega⟩, by simp only []; omega, by simp only []; omega⟩) (fun w a (hS : Sat w0 w ((MB bm pv fuel (m1.made + 1) m1.shared m1.depth m1.deepest s.tr s.ow s.ca s.pa s.re s.bp) :: (rE s.tr m1.trace) :: (rI s.ow m1.owners) :: (rC s.ca m1.calls) :: (rP s.pa s.us) :: (starL (unwL s.us)) :: (rV s.re m1.recs) :: (mapA s.bp (m1.places ++ [(f1.fn, (at_ : Int))])) :: (FB bf f1.id f1.fn f1.r0 f1.r1 f1.r2 f1.r3 t (fpv) f1.dfr f1.cnt f1.lvg f1.en f1.pan) :: (rQ t f1.runs) :: (parA fpv qv (setR1 p o1)) :: Rs)) ha => ?_))
      refine ⟨.inl (by kernel_rfl), ?_⟩
      refine d_end (by kernel_rfl) ?_ _
      refine then_n ?_
      refine wp_seq ?_
      refine p_beginL [0, 1, 2, 3, 4, 5] ?_
      refine p_run [(0, 50, .slice sb.A sb.n sb.c), (1, 51, iv (at_ : Int))] ha fun a ha => ?_
      refine p_val (v := .pointer (some ⟨bk sb, of_ sb + at_ * 3, none⟩)) ha (by decide) (v_indexR (s := sb) (el := 144) (sz := 3) (j := at_) ha (iAt (op := (Op.indexAddr 117 (Operand.tmp 50) (Operand.tmp 51))) (d := some 52) (ty := 0)) rfl rfl (by kernel_rfl) (by kernel_rfl) (hbA (by omega)) (by rw [hbn]; exact hlt)) (fun a ha => ?_)
      refine p_val (v := .agg #[iv z.k, iv z.a, iv z.b]) ha (by decide) (v_loadL (v := .agg #[iv z.k, iv z.a, iv z.b]) ha (iAt (op := (Op.load 144 (Operand.tmp 52))) (d := some 53) (ty := 144)) rfl (fun w' hw => by rw [hw]; exact ((hsb.more [_, _, _, _, _, _, _, _, _, _, _]) _ hS).2.load hz)) (fun a ha => ?_)
      refine p_op (o_new (cs := [iv 0, iv 0, iv 0]) (T := 144) (fun b => .pointer (some ⟨b, 0, none⟩)) ha (by decide) (iAt (op := (Op.alloc 144)) (d := some 6) (ty := 0)) (by kernel_rfl) hS (fun _ => by kernel_rfl) fun b3 w a hb4 hS ha => ?_)
      refine p_op (o_storeAgg 0 ha (iAt (op := (Op.store 144 (Operand.tmp 6) (Operand.tmp 53))) (ty := 0)) rfl rfl rfl (by kernel_rfl) hS rfl (Nat.le_of_ble_eq_true rfl) rfl fun w a hS ha => ?_)
      refine p_end ?_
      refine then_n ?_
      refine wp_seq ?_
      refine p_beginL [0, 1, 2] ?_
      refine p_run [(0, 54, iv (at_ : Int))] ha fun a ha => ?_
      refine p_val (v := iv ((at_ : Int) + 1)) ha (by decide) ((v_pure (v := .int .i64 (IntKind.i64.wrap ((at_ : Int) + 1))) ha (iAt (op := (Op.binOp BinOp.add 3 (Operand.tmp 54) (Operand.const (Value.int IntKind.i64 1)) 3)) (d := some 55) (ty := 3)) (by kernel_rfl) (fun _ => by kernel_rfl)).as (by rw [wrap_i64 (by omega) (by omega)])) (fun a ha => ?_)
      refine p_run [(2, 5, iv ((at_ : Int) + 1))] ha fun a ha => ?_
      refine p_end ?_
      refine then_n ?_
      refine wp_seq ?_
      refine wp_seq ?_
      refine p_beginL [0, 1, 2] ?_
      refine p_run [(0, 56, ptr b3 0)] ha fun a ha => ?_
      refine p_ld (d := 57) (b := b3) (j := 0) ha (hS.blk 0 rfl) rfl fun a ha => ?_
      refine p_run [(2, 58, .bool (decide (z.k = 11)))] ha fun a ha => ?_
      refine p_end ?_
      refine then_n ?_
      by_cases c5 : z.k = 11
      ·
        refine c_true ha rfl (decide_eq_true c5) ?_
        refine wp_seq ?_
        refine wp_seq ?_
        refine d_start 8 8 hS fun w hS => ?_
        refine d_run (k := 6) [(0, 59, ptr bf 0), (1, 60, ptr b3 2)] ha (.inr hS) (pk_then (pk_then (pk_then (pk_in (pk_then (pk_in (pk_body))))))) fun a ha => ?_
        refine d_ld 2 (d := 61) (b := b3) (j := 2) ha hS (pk_then (pk_then (pk_then (pk_in (pk_then (pk_in (pk_body))))))) (fun _ hw => hw.blk 0 rfl) rfl fun a ha => ?_
        refine d_run (k := 3) [(3, 62, ptr bf 0), (4, 63, ptr bf 2)] ha (.inr hS) (pk_then (pk_then (pk_then (pk_in (pk_then (pk_in (pk_body))))))) fun a ha => ?_
        refine d_pure (i := 5) (v := .pointer (some ⟨bf, 2 + (z.b : Int).toNat * 1, none⟩)) ha (by decide) (v_indexA (len := 4) (el := 3) (sz := 1) ha (iAt (op := (Op.indexAddr 111 (Operand.tmp 63) (Operand.tmp 61))) (d := some 64) (ty := 0)) rfl rfl (by kernel_rfl) (by kernel_rfl) (by have := (reg4 ((hsteps z (List.mem_of_getElem? hz)).b (by omega))); omega) (by have := (reg4 ((hsteps z (List.mem_of_getElem? hz)).b (by omega))); omega)) (.inr hS) (by kernel_rfl) (by kernel_rfl) (pk_then (pk_then (pk_then (pk_in (pk_then (pk_in (pk_body))))))) fun a ha => ?_
        refine d_val (i := 6) (v := iv (g4 f1.r0 f1.r1 f1.r2 f1.r3 z.b)) ha (by decide) (v_load (v := iv (g4 f1.r0 f1.r1 f1.r2 f1.r3 z.b)) (cs := [iv f1.id, iv f1.fn, iv f1.r0, iv f1.r1, iv f1.r2, iv f1.r3, .slice t.A t.n t.c, fpv, .bool f1.dfr, .bool f1.cnt, .bool f1.lvg, iv f1.en, iv f1.pan]) (T := 134) ha (iAt (op := (Op.load 3 (Operand.tmp 64))) (d := some 65) (ty := 3)) rfl (by kernel_rfl) (fun _ hw => hw.blk 9 rfl) (by rcases (reg4 ((hsteps z (List.mem_of_getElem? hz)).b (by omega))) with h | h | h | h <;> simp [h, g4])) hS (by kernel_rfl) (by kernel_rfl) (pk_then (pk_then (pk_then (pk_in (pk_then (pk_in (pk_body))))))) fun a ha => ?_
        refine d_run (k := 0) [(7, 66, .bool (decide ((g4 f1.r0 f1.r1 f1.r2 f1.r3 z.b) > 0)))] ha (.inr hS) (pk_then (pk_then (pk_then (pk_in (pk_then (pk_in (pk_body))))))) fun a ha => ?_
        refine d_end (by kernel_rfl) ?_ _
        refine then_n ?_
        by_cases c6 : (g4 f1.r0 f1.r1 f1.r2 f1.r3 z.b) > 0
        ·
          refine c_true ha rfl (decide_eq_true c6) ?_
          refine p_beginL [0, 1, 2] ?_
          refine p_run [(0, 67, ptr b3 1)] ha fun a ha => ?_
          refine p_ld (d := 68) (b := b3) (j := 1) ha (hS.blk 0 rfl) rfl fun a ha => ?_
          refine p_run [(2, 5, iv z.a)] ha fun a ha => ?_
          refine p_end ?_
          refine then_n ?_
          refine wp_exit ?_
          refine then_x ?_
          refine in_x ?_
          refine then_n ?_
          replace hS : Sat w0 w ((MB bm pv fuel (m1.made + 1) m1.shared m1.depth m1.deepest s.tr s.ow s.ca s.pa s.re s.bp) :: (rE s.tr m1.trace) :: (rI s.ow m1.owners) :: (rC s.ca m1.calls) :: (rP s.pa s.us) :: (starL (unwL s.us)) :: (rV s.re m1.recs) :: (mapA s.bp (m1.places ++ [(f1.fn, (at_ : Int))])) :: (SX.blk b3 [iv z.k, iv z.a, iv z.b] 144) :: (FB bf f1.id f1.fn f1.r0 f1.r1 f1.r2 f1.r3 t (fpv) f1.dfr f1.cnt f1.lvg f1.en f1.pan) :: (rQ t f1.runs) :: (parA fpv qv (setR1 p o1)) :: Rs) := hS.pickN 12 [1, 2, 3, 4, 5, 6, 7, 8, 0, 9, 10, 11] (by decide) rfl
          obtain ⟨m_3, hm_3⟩ : ∃ z_ : MS, z_ = (⟨(m1.made + 1), m1.shared, m1.depth, m1.deepest, m1.trace, m1.owners, m1.calls, m1.panics, m1.recs, (m1.places ++ [(f1.fn, (at_ : Int))])⟩ : MS) := ⟨_, rfl⟩
          replace hS : Sat w0 w ((mch bm pv fuel m_3) :: (SX.blk b3 [iv z.k, iv z.a, iv z.b] 144) :: (FB bf f1.id f1.fn f1.r0 f1.r1 f1.r2 f1.r3 t (fpv) f1.dfr f1.cnt f1.lvg f1.en f1.pan) :: (rQ t f1.runs) :: (parA fpv qv (setR1 p o1)) :: Rs) := by rw [hm_3]; exact Sat.shutM (⟨s.tr, s.ow, s.ca, s.pa, s.re, s.us, s.bp⟩ : MSl) (hs) hS
          replace hS : Sat w0 w ((FB bf f1.id f1.fn f1.r0 f1.r1 f1.r2 f1.r3 t (fpv) f1.dfr f1.cnt f1.lvg f1.en f1.pan) :: (rQ t f1.runs) :: (mch bm pv fuel m_3) :: (SX.blk b3 [iv z.k, iv z.a, iv z.b] 144) :: (parA fpv qv (setR1 p o1)) :: Rs) := hS.pickN 5 [2, 3, 0, 1, 4] (by decide) rfl
          obtain ⟨f_2, hf_2⟩ : ∃ z_ : FS, z_ = (⟨f1.id, f1.fn, f1.r0, f1.r1, f1.r2, f1.r3, f1.runs, f1.dfr, f1.cnt, f1.lvg, f1.en, f1.pan⟩ : FS) := ⟨_, rfl⟩
          replace hS : Sat w0 w ((frm bf f_2 (fpv)) :: (mch bm pv fuel m_3) :: (SX.blk b3 [iv z.k, iv z.a, iv z.b] 144) :: (parA fpv qv (setR1 p o1)) :: Rs) := by rw [hf_2]; exact Sat.shutF t hS
          have e1 : m_3 = m1.step f1.fn at_ := hm_3
          have e2 : f_2 = f1 := hf_2
          replace hS : Sat w0 w ((mch bm pv fuel m_3) :: (frm bf f_2 (fpv)) :: (parA fpv qv (setR1 p o1)) :: Rs) := hS.pickN 4 [1, 0, 3] (by decide) rfl
          replace hS : Sat w0 w ((mch bm pv fuel (m1.step f1.fn at_)) :: (frm bf f1 fpv) :: (parA fpv qv (setR1 p o1)) :: Rs) := by rw [e1, e2] at hS; exact hS
          have hj := (hsteps z (List.mem_of_getElem? hz)).j c5
          have hc5 : ((z.a.toNat : Nat) : Int) = z.a := by omega
          refine ⟨_, (show 1 + k < 1 + (k + 1) by omega), k, m1.step f1.fn at_, f1, o1, z.a.toNat, rfl, ?_, ?_, (hok.step c2 f1.fn at_).less (by omega), hof.grew (Grew.step m1 f1.fn at_), hgr.trans (Grew.step m1 f1.fn at_), hfn, hfd, ?_, ?_, hS⟩
          · rw [← hR]; simp [bodyS, hz, c2, c5, FS.get, c6]
          · have h9 : (m1.step f1.fn at_).made = m1.made + 1 := rfl; rw [h9]; omega
          · omega
          · rw [hc5]; exact ha.keeps [0, 1, 4, 5] _ rfl
        ·
          refine c_false ha rfl (decide_eq_false c6) ?_
          refine wp_skip ?_
          refine then_n ?_
          refine wp_exit ?_
          refine then_x ?_
          refine in_x ?_
          refine then_n ?_
          replace hS : Sat w0 w ((MB bm pv fuel (m1.made + 1) m1.shared m1.depth m1.deepest s.tr s.ow s.ca s.pa s.re s.bp) :: (rE s.tr m1.trace) :: (rI s.ow m1.owners) :: (rC s.ca m1.calls) :: (rP s.pa s.us) :: (starL (unwL s.us)) :: (rV s.re m1.recs) :: (mapA s.bp (m1.places ++ [(f1.fn, (at_ : Int))])) :: (SX.blk b3 [iv z.k, iv z.a, iv z.b] 144) :: (FB bf f1.id f1.fn f1.r0 f1.r1 f1.r2 f1.r3 t (fpv) f1.dfr f1.cnt f1.lvg f1.en f1.pan) :: (rQ t f1.runs) :: (parA fpv qv (setR1 p o1)) :: Rs) := hS.pickN 12 [1, 2, 3, 4, 5, 6, 7, 8, 0, 9, 10, 11] (by decide) rfl
          obtain ⟨m_4, hm_4⟩ : ∃ z_ : MS, z_ = (⟨(m1.made + 1), m1.shared, m1.depth, m1.deepest, m1.trace, m1.owners, m1.calls, m1.panics, m1.recs, (m1.places ++ [(f1.fn, (at_ : Int))])⟩ : MS) := ⟨_, rfl⟩
          replace hS : Sat w0 w ((mch bm pv fuel m_4) :: (SX.blk b3 [iv z.k, iv z.a, iv z.b] 144) :: (FB bf f1.id f1.fn f1.r0 f1.r1 f1.r2 f1.r3 t (fpv) f1.dfr f1.cnt f1.lvg f1.en f1.pan) :: (rQ t f1.runs) :: (parA fpv qv (setR1 p o1)) :: Rs) := by rw [hm_4]; exact Sat.shutM (⟨s.tr, s.ow, s.ca, s.pa, s.re, s.us, s.bp⟩ : MSl) (hs) hS
          replace hS : Sat w0 w ((FB bf f1.id f1.fn f1.r0 f1.r1 f1.r2 f1.r3 t (fpv) f1.dfr f1.cnt f1.lvg f1.en f1.pan) :: (rQ t f1.runs) :: (mch bm pv fuel m_4) :: (SX.blk b3 [iv z.k, iv z.a, iv z.b] 144) :: (parA fpv qv (setR1 p o1)) :: Rs) := hS.pickN 5 [2, 3, 0, 1, 4] (by decide) rfl
          obtain ⟨f_3, hf_3⟩ : ∃ z_ : FS, z_ = (⟨f1.id, f1.fn, f1.r0, f1.r1, f1.r2, f1.r3, f1.runs, f1.dfr, f1.cnt, f1.lvg, f1.en, f1.pan⟩ : FS) := ⟨_, rfl⟩
          replace hS : Sat w0 w ((frm bf f_3 (fpv)) :: (mch bm pv fuel m_4) :: (SX.blk b3 [iv z.k, iv z.a, iv z.b] 144) :: (parA fpv qv (setR1 p o1)) :: Rs) := by rw [hf_3]; exact Sat.shutF t hS
          have e1 : m_4 = m1.step f1.fn at_ := hm_4
          have e2 : f_3 = f1 := hf_3
          replace hS : Sat w0 w ((mch bm pv fuel m_4) :: (frm bf f_3 (fpv)) :: (parA fpv qv (setR1 p o1)) :: Rs) := hS.pickN 4 [1, 0, 3] (by decide) rfl
          replace hS : Sat w0 w ((mch bm pv fuel (m1.step f1.fn at_)) :: (frm bf f1 fpv) :: (parA fpv qv (setR1 p o1)) :: Rs) := by rw [e1, e2] at hS; exact hS
          have hj := (hsteps z (List.mem_of_getElem? hz)).j c5
          have hc5 : (((at_ + 1) : Nat) : Int) = (at_ : Int) + 1 := by omega
          refine ⟨_, (show 1 + k < 1 + (k + 1) by omega), k, m1.step f1.fn at_, f1, o1, (at_ + 1), rfl, ?_, ?_, (hok.step c2 f1.fn at_).less (by omega), hof.grew (Grew.step m1 f1.fn at_), hgr.trans (Grew.step m1 f1.fn at_), hfn, hfd, ?_, ?_, hS⟩
          · rw [← hR]; simp [bodyS, hz, c2, c5, FS.get, c6]
          · have h9 : (m1.step f1.fn at_).made = m1.made + 1 := rfl; rw [h9]; omega
          · omega
          · rw [hc5]; exact ha.keeps [0, 1, 4, 5] _ rfl
      ·
        refine c_false ha rfl (decide_eq_false c5) ?_
        refine wp_skip ?_
        refine then_n ?_
        refine wp_seq ?_
        refine p_beginL [0, 1, 2, 3] ?_
        refine p_run [(0, 69, ptr bm 0), (1, 70, ptr bf 0)] ha fun a ha => ?_
        refine p_val ha (by decide) (v_loadW ha (iAt (op := (Op.load 144 (Operand.tmp 6))) (d := some 71) (ty := 144)) rfl (by kernel_rfl) (fun _ hw => by rw [hw]; exact hS.blk 0 rfl)) (fun a ha => ?_)
        replace hS : Sat w0 w ((MB bm pv fuel (m1.made + 1) m1.shared m1.depth m1.deepest s.tr s.ow s.ca s.pa s.re s.bp) :: (rE s.tr m1.trace) :: (rI s.ow m1.owners) :: (rC s.ca m1.calls) :: (rP s.pa s.us) :: (starL (unwL s.us)) :: (rV s.re m1.recs) :: (mapA s.bp (m1.places ++ [(f1.fn, (at_ : Int))])) :: (SX.blk b3 [iv z.k, iv z.a, iv z.b] 144) :: (FB bf f1.id f1.fn f1.r0 f1.r1 f1.r2 f1.r3 t (fpv) f1.dfr f1.cnt f1.lvg f1.en f1.pan) :: (rQ t f1.runs) :: (parA fpv qv (setR1 p o1)) :: Rs) := hS.pickN 12 [1, 2, 3, 4, 5, 6, 7, 8, 0, 9, 10, 11] (by decide) rfl
        obtain ⟨m_5, hm_5⟩ : ∃ z_ : MS, z_ = (⟨(m1.made + 1), m1.shared, m1.depth, m1.deepest, m1.trace, m1.owners, m1.calls, m1.panics, m1.recs, (m1.places ++ [(f1.fn, (at_ : Int))])⟩ : MS) := ⟨_, rfl⟩
        replace hS : Sat w0 w ((mch bm pv fuel m_5) :: (SX.blk b3 [iv z.k, iv z.a, iv z.b] 144) :: (FB bf f1.id f1.fn f1.r0 f1.r1 f1.r2 f1.r3 t (fpv) f1.dfr f1.cnt f1.lvg f1.en f1.pan) :: (rQ t f1.runs) :: (parA fpv qv (setR1 p o1)) :: Rs) := by rw [hm_5]; exact Sat.shutM (⟨s.tr, s.ow, s.ca, s.pa, s.re, s.us, s.bp⟩ : MSl) (hs) hS
        replace hS : Sat w0 w ((FB bf f1.id f1.fn f1.r0 f1.r1 f1.r2 f1.r3 t (fpv) f1.dfr f1.cnt f1.lvg f1.en f1.pan) :: (rQ t f1.runs) :: (mch bm pv fuel m_5) :: (SX.blk b3 [iv z.k, iv z.a, iv z.b] 144) :: (parA fpv qv (setR1 p o1)) :: Rs) := hS.pickN 5 [2, 3, 0, 1, 4] (by decide) rfl
        obtain ⟨f_4, hf_4⟩ : ∃ z_ : FS, z_ = (⟨f1.id, f1.fn, f1.r0, f1.r1, f1.r2, f1.r3, f1.runs, f1.dfr, f1.cnt, f1.lvg, f1.en, f1.pan⟩ : FS) := ⟨_, rfl⟩
        replace hS : Sat w0 w ((frm bf f_4 (fpv)) :: (mch bm pv fuel m_5) :: (SX.blk b3 [iv z.k, iv z.a, iv z.b] 144) :: (parA fpv qv (setR1 p o1)) :: Rs) := by rw [hf_4]; exact Sat.shutF t hS
        have e1 : m_5 = m1.step f1.fn at_ := hm_5
        have e2 : f_4 = f1 := hf_4
        replace hS : Sat w0 w ((mch bm pv fuel m_5) :: (frm bf f_4 (fpv)) :: (parA fpv qv (setR1 p o1)) :: (SX.blk b3 [iv z.k, iv z.a, iv z.b] 144) :: Rs) := hS.pickN 4 [1, 0, 3, 2] (by decide) rfl
        replace hS : Sat w0 w ((mch bm pv fuel (m1.step f1.fn at_)) :: (frm bf f1 fpv) :: (parA fpv qv (setR1 p o1)) :: (SX.blk b3 [iv z.k, iv z.a, iv z.b] 144) :: Rs) := by rw [e1, e2] at hS; exact hS
        have hok2 := hok.step c2 f1.fn at_
        have hso := hsteps z (List.mem_of_getElem? hz)
        have hdp1 : f1.dfr = true → p.isSome = true := fun h => hdp (hfd ▸ h)
        have hgp := hp.grew (hgr.trans (Grew.step m1 f1.fn at_))
        have hd1 : (m1.step f1.fn at_).depth + d = 8 := by show m1.depth + d = 8; rw [hgr.depth]; exact hdep
        refine p_op (o_call (Post := stepPost w0 bm bf pv fuel ((SX.blk b3 [iv z.k, iv z.a, iv z.b] 144) :: Rs) fpv qv p (stepS (callS P fuel d) (m1.step f1.fn at_) f1 p o1 z)) ha (by decide) (iAt (op := (Op.call { callee := (Callee.value (Operand.func 125)), args := #[(Operand.tmp 69), (Operand.tmp 70), (Operand.tmp 71)], argTypes := #[65, 130, 144] })) (d := some 72) (ty := 4)) rfl Try.func125 (by kernel_rfl) (step_calls P hP d fuel bm pv sbs IH w0 w _ bf _ f1 fpv qv p o1 z x hS hok2 (hof.grew (Grew.step m1 f1.fn at_)) hso hd1 (by show 0 ≤ m1.depth; rw [hgr.depth]; exact hd0) hdp1 hgp (hPr.more [_])) (fun v8 w a hp7 ha => ?_) (fun c_ w hp7 => then_p (in_p (then_p (in_p (?_))))) (fun _ hp_ => hp_))
        rotate_left
        ·
          obtain ⟨m2, hres, rfl, hS9⟩ := hp7
          refine ⟨ha.defers, m2, by rw [← hR]; simp [bodyS, hz, c2, c5, hres], rfl, ?_⟩
          exact hS9.pickR (l := [_, SX.blk b3 [iv z.k, iv z.a, iv z.b] 144]) [0] (by decide) [_] rfl
        obtain ⟨m2, f2, o2, e2_, hres, rfl, hS⟩ := hp7
        obtain ⟨hok3, hgr3, hof3⟩ := stepS_ok (callS_ok hP fuel d) hso hok2 (hof.grew (Grew.step m1 f1.fn at_)) hres
        obtain ⟨hx1, hx2, hx3⟩ := stepS_fix hres
        have ha : Has 73 [(0, ptr bm 0), (1, ptr bf 0), (4, .slice sb.A sb.n sb.c), (18, iv (at_ : Int)), (19, .slice sb.A sb.n sb.c), (20, iv (sb.n : Int)), (21, .bool (decide ((at_ : Int) < (sb.n : Int)))), (22, ptr bm 0), (23, ptr bm 0), (24, ptr bm 2), (25, iv m1.made), (26, ptr bm 0), (27, ptr bm 0), (28, ptr bm 1), (29, iv fuel), (30, .bool (decide (m1.made = fuel))), (33, ptr bm 0), (34, ptr bm 0), (35, ptr bm 2), (36, iv m1.made), (37, iv (m1.made + 1)), (38, ptr bm 0), (39, ptr bm 2), (40, ptr bm 0), (41, ptr bm 0), (42, ptr bm 11), (43, .map (some s.bp)), (44, ptr bf 0), (45, ptr bf 0), (46, ptr bf 1), (47, iv f1.fn), (48, iv (at_ : Int)), (49, .agg #[iv f1.fn, iv (at_ : Int)]), (50, .slice sb.A sb.n sb.c), (51, iv (at_ : Int)), (52, .pointer (some ⟨bk sb, of_ sb + at_ * 3, none⟩)), (53, .agg #[iv z.k, iv z.a, iv z.b]), (6, ptr b3 0), (54, iv (at_ : Int)), (55, iv ((at_ : Int) + 1)), (5, iv ((at_ : Int) + 1)), (56, ptr b3 0), (57, iv z.k), (58, .bool (decide (z.k = 11))), (69, ptr bm 0), (70, ptr bf 0), (71, .agg #[iv z.k, iv z.a, iv z.b]), (72, .bool e2_)] a := ha.keeps [0, 1, 4, 18, 19, 20, 21, 22, 23, 24, 25, 26, 27, 28, 29, 30, 33, 34, 35, 36, 37, 38, 39, 40, 41, 42, 43, 44, 45, 46, 47, 48, 49, 50, 51, 52, 53, 6, 54, 55, 5, 56, 57, 58, 69, 70, 71, 72] _ rfl
        refine p_end ?_
        refine then_n ?_
        rcases Bool.eq_false_or_eq_true e2_ with c9 | c9
        ·
          refine c_true ha rfl c9 ?_
          refine wp_ret ?_
          refine in_r ?_
          refine then_r ?_
          refine in_r ?_
          refine end_noneR ha (by kernel_rfl) ?_
          replace hS : Sat w0 w ((mch bm pv fuel m2) :: (frm bf f2 fpv) :: (parA fpv qv (setR1 p o2)) :: Rs) := hS.pickN 4 [0, 1, 2] (by decide) rfl
          exact ⟨m2, f2, o2, by rw [← hR]; simp [bodyS, hz, c2, c5, hres, c9], rfl, hS⟩
        ·
          refine c_false ha rfl c9 ?_
          refine wp_skip ?_
          refine in_n ?_
          refine then_n ?_
          replace hS : Sat w0 w ((mch bm pv fuel m2) :: (frm bf f2 fpv) :: (parA fpv qv (setR1 p o2)) :: Rs) := hS.pickN 4 [0, 1, 2] (by decide) rfl
          have hc5 : ((at_ + 1 : Nat) : Int) = (at_ : Int) + 1 := by omega
          refine ⟨_, (show 1 + k < 1 + (k + 1) by omega), k, m2, f2, o2, at_ + 1, rfl, ?_, ?_, hok3, hof3, (hgr.trans (Grew.step m1 f1.fn at_)).trans hgr3, hx1.trans hfn, hx2.trans hfd, ?_, ?_, hS⟩
          · rw [← hR]; simp [bodyS, hz, c2, c5, hres, c9]
          · have h8 := hgr3.made; have h9 : (m1.step f1.fn at_).made = m1.made + 1 := rfl; omega
          · omega
          · rw [hc5]; exact ha.keeps [0, 1, 4, 5] _ rfl
  ·
    have hend : body[at_]? = none := List.getElem?_eq_none (by have := c1; omega)
    refine c_false ha rfl (decide_eq_false c1) ?_
    refine wp_exit ?_
    refine then_x ?_
    refine then_x ?_
    refine in_x ?_
    refine end_none ha (by kernel_rfl) ?_
    replace hS : Sat w0 w ((MB bm pv fuel m1.made m1.shared m1.depth m1.deepest s.tr s.ow s.ca s.pa s.re s.bp) :: (rE s.tr m1.trace) :: (rI s.ow m1.owners) :: (rC s.ca m1.calls) :: (rP s.pa s.us) :: (starL (unwL s.us)) :: (rV s.re m1.recs) :: (mapA s.bp m1.places) :: (FB bf f1.id f1.fn f1.r0 f1.r1 f1.r2 f1.r3 t (fpv) f1.dfr f1.cnt f1.lvg f1.en f1.pan) :: (rQ t f1.runs) :: (parA fpv qv (setR1 p o1)) :: Rs) := hS
    obtain ⟨m_6, hm_6⟩ : ∃ z_ : MS, z_ = (⟨m1.made, m1.shared, m1.depth, m1.deepest, m1.trace, m1.owners, m1.calls, m1.panics, m1.recs, m1.places⟩ : MS) := ⟨_, rfl⟩
    replace hS : Sat w0 w ((mch bm pv fuel m_6) :: (FB bf f1.id f1.fn f1.r0 f1.r1 f1.r2 f1.r3 t (fpv) f1.dfr f1.cnt f1.lvg f1.en f1.pan) :: (rQ t f1.runs) :: (parA fpv qv (setR1 p o1)) :: Rs) := by rw [hm_6]; exact Sat.shutM (⟨s.tr, s.ow, s.ca, s.pa, s.re, s.us, s.bp⟩ : MSl) (hs) hS
    replace hS : Sat w0 w ((FB bf f1.id f1.fn f1.r0 f1.r1 f1.r2 f1.r3 t (fpv) f1.dfr f1.cnt f1.lvg f1.en f1.pan) :: (rQ t f1.runs) :: (mch bm pv fuel m_6) :: (parA fpv qv (setR1 p o1)) :: Rs) := hS.pickN 4 [1, 2, 0, 3] (by decide) rfl
    obtain ⟨f_5, hf_5⟩ : ∃ z_ : FS, z_ = (⟨f1.id, f1.fn, f1.r0, f1.r1, f1.r2, f1.r3, f1.runs, f1.dfr, f1.cnt, f1.lvg, f1.en, f1.pan⟩ : FS) := ⟨_, rfl⟩
    replace hS : Sat w0 w ((frm bf f_5 (fpv)) :: (mch bm pv fuel m_6) :: (parA fpv qv (setR1 p o1)) :: Rs) := by rw [hf_5]; exact Sat.shutF t hS
    have e1 : m_6 = m1 := hm_6
    have e2 : f_5 = f1 := hf_5
    replace hS : Sat w0 w ((mch bm pv fuel m_6) :: (frm bf f_5 (fpv)) :: (parA fpv qv (setR1 p o1)) :: Rs) := hS.pickN 3 [1, 0, 2] (by decide) rfl
    rw [e1, e2] at hS
    exact ⟨m1, f1, o1, by rw [← hR]; simp [bodyS, hend], rfl, hS⟩
end SX
end Go.Proofs.Ytdbbafepjgnmeaa
end
section
namespace Go.Proofs.Ytdbbafepjgnmeaa
namespace SX
open Go.RowKit
set_option linter.unusedVariables false
set_option linter.unusedSimpArgs false
theorem code114 : Try.f114.body = some (Code.seq (Code.region 0 (regOf Try.f114 0) false) (Code.seq (Code.seq (Code.region 1 (regOf Try.f114 1) false) (Code.cond (Operand.tmp 19) (Code.region 2 (regOf Try.f114 2) false) Code.skip)) (Code.seq (Code.region 3 (regOf Try.f114 3) false) (Code.seq (Code.region 4 (regOf Try.f114 4) false) (Code.seq (Code.region 5 (regOf Try.f114 5) false) (Code.seq (Code.seq (Code.region 6 (regOf Try.f114 6) false) (Code.cond (Operand.tmp 38) (Code.region 7 (regOf Try.f114 7) false) Code.skip)) (Code.seq (Code.seq (Code.region 8 (regOf Try.f114 8) false) (Code.cond (Operand.tmp 43) (Code.region 9 (regOf Try.f114 9) false) Code.skip)) (Code.seq (Code.region 10 (regOf Try.f114 10) false) (Code.seq (Code.region 11 (regOf Try.f114 11) false) (Code.seq (Code.region 12 (regOf Try.f114 12) false) (Code.seq (Code.region 13 (regOf Try.f114 13) true) (Code.seq (Code.region 14 (regOf Try.f114 14) false) (Code.seq (Code.block 0 (Code.loop (Code.seq (Code.seq (Code.region 15 (regOf Try.f114 15) false) (Code.cond (Operand.tmp 95) Code.skip (Code.exit 0))) (Code.block 1 (Code.seq (Code.region 16 (regOf Try.f114 16) true) (Code.seq (Code.region 17 (regOf Try.f114 17) true) (Code.region 18 (regOf Try.f114 18) false))))))) (Code.seq (Code.region 19 (regOf Try.f114 19) false) (Code.seq (Code.region 20 (regOf Try.f114 20) false) (Code.seq (Code.region 21 (regOf Try.f114 21) false) Code.ret)))))))))))))))) := by kernel_rfl
end SX
end Go.Proofs.Ytdbbafepjgnmeaa
end
section
namespace Go.Proofs.Ytdbbafepjgnmeaa
namespace SX
open Go.RowKit
set_option linter.unusedVariables false
set_option linter.unusedSimpArgs false
set_option maxRecDepth 20000 in
set_option maxHeartbeats 1000000 in
theorem call_none (P : List (List Stp)) (hP : ProgOk P) (D : Nat) (fuel : Int) (bm : Nat) (pv : Sl) (sbs : List Sl) (IH : ∀ d, D = d + 1 → CallC P fuel bm pv sbs d) (w0 w : World) (Rs : List Asn) (m : MS) (fn arg : Int) (qv : Value) (o : Int) (dfr : Bool) (x : Nat) (hS : Sat w0 w (mch bm pv fuel m :: parA (.pointer none) qv (setR1 none o) :: Rs)) (hm : OkM fuel m (x + 2)) (hdep : m.depth + D = 8) (hd0 : 0 ≤ m.depth) (h0 : 0 ≤ fn) (h1 : fn < P.length) (hdp : dfr = true → (none : Option FS).isSome = true) (hp : OkP m none) (hPr : Keeps w0 Rs (fun w => RdProg w pv sbs P)) :
    Calls Try.prog 114 #[.pointer (some ⟨bm, 0, none⟩), .int .i64 fn, .int .i64 arg, .pointer none, .bool dfr] w (callPost w0 bm pv fuel Rs (.pointer none) qv none (callS P fuel D m fn arg none o dfr)) := by
  have hcbd := hm.bnd
  have hcm := hm.made1
  have hcc := hm.calls
  have hfit : m.calls.length ≤ 1000 := by omega
  obtain ⟨s, hs, hS⟩ := Sat.openM hS
  replace hS : Sat w0 w ((MB bm pv fuel m.made m.shared m.depth m.deepest s.tr s.ow s.ca s.pa s.re s.bp) :: (rE s.tr m.trace) :: (rI s.ow m.owners) :: (rC s.ca m.calls) :: (rP s.pa s.us) :: (starL (unwL s.us)) :: (rV s.re m.recs) :: (mapA s.bp m.places) :: parA (.pointer none) qv (setR1 none o) :: Rs) := hS
  have hcn : s.ca.n = m.calls.length := hS.rowL (s := s.ca) (enc := cellsC) 3 cellsC_len (by decide) rfl
  refine enter (n := 143) Try.func114 code114 (by kernel_rfl) (Nat.le_of_ble_eq_true rfl) (fun a ha => ?_)
  replace ha : Has 143 [(0, ptr bm 0), (1, iv fn), (2, iv arg), (3, .pointer none), (4, .bool dfr)] a := ha
  refine wp_seq ?_
  refine p_beginL [0] ?_
  refine p_run [(0, 10, .pointer none)] ha fun a ha => ?_
  refine p_end ?_
  refine then_n ?_
  refine wp_seq ?_
  refine wp_seq ?_
  refine p_beginL [0, 1, 2, 3, 4] ?_
  refine p_run [(0, 15, ptr bm 0), (1, 16, ptr bm 0), (2, 17, ptr bm 4)] ha fun a ha => ?_
  refine p_ld (d := 18) (b := bm) (j := 4) ha (hS.blk 0 rfl) rfl fun a ha => ?_
  refine p_run [(4, 19, .bool (decide (m.depth = 8)))] ha fun a ha => ?_
  refine p_end ?_
  refine then_n ?_
  by_cases c1 : m.depth = 8
  ·
    refine c_true ha rfl (decide_eq_true c1) ?_
    refine p_beginL [0, 1, 2] ?_
    refine p_run [(0, 20, .agg #[]), (1, 21, .iface 162 (.agg #[]))] ha fun a ha => ?_
    refine p_op (o_panic ha (iAt (op := (Op.panic (Operand.tmp 21))) (ty := 0)) rfl (then_p (?_)))
    replace hS : Sat w0 w ((MB bm pv fuel m.made m.shared m.depth m.deepest s.tr s.ow s.ca s.pa s.re s.bp) :: (rE s.tr m.trace) :: (rI s.ow m.owners) :: (rC s.ca m.calls) :: (rP s.pa s.us) :: (starL (unwL s.us)) :: (rV s.re m.recs) :: (mapA s.bp m.places) :: (parA (.pointer none) qv (setR1 none o)) :: Rs) := hS
    obtain ⟨m_1, hm_1⟩ : ∃ z_ : MS, z_ = (⟨m.made, m.shared, m.depth, m.deepest, m.trace, m.owners, m.calls, m.panics, m.recs, m.places⟩ : MS) := ⟨_, rfl⟩
    replace hS : Sat w0 w ((mch bm pv fuel m_1) :: (parA (.pointer none) qv (setR1 none o)) :: Rs) := by rw [hm_1]; exact Sat.shutM (⟨s.tr, s.ow, s.ca, s.pa, s.re, s.us, s.bp⟩ : MSl) (hs) hS
    have e1 : m_1 = m := hm_1
    have hD : D = 0 := by have := c1; omega
    refine ⟨ha.defers, m, by rw [hD]; rfl, rfl, ?_⟩
    rw [e1] at hS
    exact hS.pickR (l := [_, parA (.pointer none) qv (setR1 none o)]) [0] (by decide) [_] rfl
  ·
    obtain ⟨d, rfl⟩ : ∃ d, D = d + 1 := ⟨D - 1, by have := c1; omega⟩
    generalize hR : callS P fuel (d + 1) m fn arg none o dfr = R_
    refine c_false ha rfl (decide_eq_false c1) ?_
    refine wp_skip ?_
    refine then_n ?_
    refine wp_seq ?_
    refine p_beginL [0, 1, 2, 3, 4, 5, 6, 7, 8, 9, 10] ?_
    refine p_run [(0, 22, ptr bm 0), (1, 23, ptr bm 0), (2, 24, ptr bm 8)] ha fun a ha => ?_
    refine p_ld (d := 25) (b := bm) (j := 8) ha (hS.blk 0 rfl) rfl fun a ha => ?_
    refine p_run [(4, 26, iv (s.ca.n : Int)), (5, 27, iv fn), (6, 28, .pointer none), (7, 29, .bool dfr), (8, 30, .agg #[iv (s.ca.n : Int), iv fn, iv 0, iv 0, iv 0, iv 0, .slice none 0 0, .pointer none, .bool dfr, .bool false, .bool false, iv 1, iv (-1)])] ha fun a ha => ?_
    refine p_op (o_new (cs := [iv (s.ca.n : Int), iv fn, iv 0, iv 0, iv 0, iv 0, .slice none 0 0, .pointer none, .bool dfr, .bool false, .bool false, iv 1, iv (-1)]) (T := 134) (fun b => .pointer (some ⟨b, 0, none⟩)) ha (by decide) (iAt (op := (Op.box 134 (Operand.tmp 30))) (d := some 31) (ty := 130)) (by kernel_rfl) hS (fun _ => by kernel_rfl) fun bf w a hb2 hS ha => ?_)
    refine p_run [(10, 11, ptr bf 0)] ha fun a ha => ?_
    refine p_end ?_
    refine then_n ?_
    refine wp_seq ?_
    refine p_beginL [0, 1, 2, 3, 4, 5] ?_
    refine p_run [(0, 32, ptr bf 0), (1, 33, iv arg), (2, 34, ptr bf 0), (3, 35, ptr bf 2), (4, 36, ptr bf 2)] ha fun a ha => ?_
    refine p_op (o_st bf 2 (iv arg) 0 ha hS rfl rfl fun w a hS ha => ?_)
    refine p_end ?_
    replace ha := ha.as [(0, ptr bm 0), (1, iv fn), (2, iv arg), (3, .pointer none), (4, .bool dfr), (10, .pointer none), (11, ptr bf 0)] rfl
    refine then_n ?_
    refine wp_seq ?_
    refine p_beginL [0, 1] ?_
    refine p_run [(0, 12, iv (-1)), (1, 13, iv 1)] ha fun a ha => ?_
    refine p_end ?_
    refine then_n ?_
    refine wp_seq ?_
    refine wp_seq ?_
    refine p_beginL [0, 1] ?_
    refine p_run [(0, 37, .pointer none), (1, 38, .bool false)] ha fun a ha => ?_
    refine p_end ?_
    refine then_n ?_
    refine c_false ha rfl rfl ?_
    refine wp_skip ?_
    refine then_n ?_
    refine wp_seq ?_
    refine wp_seq ?_
    refine p_beginL [0] ?_
    refine p_run [(0, 43, .bool dfr)] ha fun a ha => ?_
    refine p_end ?_
    refine then_n ?_
    refine then_cut (J := fun a_ w_ => Has 143 [(0, ptr bm 0), (1, iv fn), (2, iv arg), (4, .bool dfr), (10, .pointer none), (11, ptr bf 0), (12, iv (-1)), (13, iv (if dfr = true then 3 else 1)), (43, .bool dfr)] a_ ∧ Sat w0 w_ ((FB bf (s.ca.n : Int) fn arg 0 0 0 (⟨none, 0, 0⟩) (.pointer none) dfr false false 1 (-1)) :: (MB bm pv fuel m.made m.shared m.depth m.deepest s.tr s.ow s.ca s.pa s.re s.bp) :: (rE s.tr m.trace) :: (rI s.ow m.owners) :: (rC s.ca m.calls) :: (rP s.pa s.us) :: (starL (unwL s.us)) :: (rV s.re m.recs) :: (mapA s.bp m.places) :: (parA (.pointer none) qv (setR1 none o)) :: Rs)) ?_ ?_
    ·
      rcases Bool.eq_false_or_eq_true dfr with c3 | c3
      ·
        refine c_true ha rfl c3 ?_
        refine p_beginL [0] ?_
        refine p_run [(0, 13, iv 3)] ha fun a ha => ?_
        refine p_end ?_
        have e4 : ((if dfr = true then 3 else 1) : Int) = 3 := by simp [c1, c3]
        refine then_n ⟨?_, ?_⟩
        · first | (rw [e4]; exact ha.keeps [0, 1, 2, 4, 10, 11, 12, 13, 43] _ rfl) | exact ha.keeps [0, 1, 2, 4, 10, 11, 12, 13, 43] _ rfl
        · first | (rw [e4]; exact hS) | exact hS
      ·
        refine c_false ha rfl c3 ?_
        refine wp_skip ?_
        have e5 : ((if dfr = true then 3 else 1) : Int) = 1 := by simp [c1, c3]
        refine then_n ⟨?_, ?_⟩
        · first | (rw [e5]; exact ha.keeps [0, 1, 2, 4, 10, 11, 12, 13, 43] _ rfl) | exact ha.keeps [0, 1, 2, 4, 10, 11, 12, 13, 43] _ rfl
        · first | (rw [e5]; exact hS) | exact hS
    ·
      rintro a w ⟨ha, hS⟩
      refine wp_seq ?_
      refine p_beginL [0, 1, 2, 3, 4, 5, 6, 7, 8, 9, 10, 11, 12, 13, 14, 15] ?_
      refine p_run [(0, 44, ptr bm 0), (1, 45, ptr bm 0), (2, 46, ptr bm 0), (3, 47, ptr bm 8)] ha fun a ha => ?_
      refine p_ld (d := 48) (b := bm) (j := 8) ha (hS.blk 1 rfl) rfl fun a ha => ?_
      refine p_run [(5, 49, iv fn), (6, 50, iv (-1)), (7, 51, .bool dfr), (8, 52, .agg #[iv fn, iv (-1), .bool dfr, iv 4, iv 0]), (9, 53, iv arg), (10, 54, .agg #[iv fn, iv (-1), .bool dfr, iv 4, iv 0, iv arg])] ha fun a ha => ?_
      refine p_op (o_new (cs := [iv fn, iv (-1), .bool dfr, iv 4, iv 0, iv arg]) (T := 138) (fun b => .slice (some ⟨b, 0, none⟩) 1 1) ha (by decide) (iAt (op := (Op.buildSlice 68 1 #[(0, (Operand.tmp 54))])) (d := some 55) (ty := 68)) (by kernel_rfl) hS (fun _ => by kernel_rfl) fun b6 w a hb7 hS ha => ?_)
      refine p_op (o_appE (news := [iv fn, iv (-1), .bool dfr, iv 4, iv 0, iv arg]) (z := .agg #[iv 0, iv 0, .bool false, iv 0, iv 0, iv 0]) (sz := 6) (bytes := 48) (T2 := 138) (xs' := encC (m.calls ++ [(⟨fn, (-1), dfr, 4, 0, arg⟩ : CallI)])) 5 0 ha (by decide) (iAt (op := (Op.call { callee := (Callee.builtin Builtin.append), args := #[(Operand.tmp 48), (Operand.tmp 55)], argTypes := #[68, 68] })) (d := some 56) (ty := 68)) rfl rfl (by kernel_rfl) (by kernel_rfl) rfl (by decide) hS rfl rfl (by simp) rfl (by rw [encC_length]; simp only [List.length_cons, List.length_nil]; have := hfit; omega) (by decide) (encC_snoc _ _ _ _ _ _ _) fun s11 w a hS hn12 ha => ?_)
      refine p_run [(13, 57, ptr bm 0), (14, 58, ptr bm 8)] ha fun a ha => ?_
      refine p_op (o_st bm 8 (.slice s11.A s11.n s11.c) 2 ha hS rfl rfl fun w a hS ha => ?_)
      refine p_end ?_
      replace ha := ha.as [(0, ptr bm 0), (1, iv fn), (2, iv arg), (10, .pointer none), (11, ptr bf 0), (13, iv (if dfr = true then 3 else 1))] rfl
      refine then_n ?_
      refine wp_seq ?_
      refine p_beginL [0, 1, 2, 3, 4, 5, 6, 7, 8] ?_
      refine p_run [(0, 59, ptr bm 0), (1, 60, iv (if dfr = true then 3 else 1)), (2, 61, iv fn), (3, 62, iv arg), (4, 63, ptr bf 0), (5, 64, ptr bf 0), (6, 65, ptr bf 0)] ha fun a ha => ?_
      refine p_ld (d := 66) (b := bf) (j := 0) ha (hS.blk 1 rfl) rfl fun a ha => ?_
      replace hS : Sat w0 w ((MB bm pv fuel m.made m.shared m.depth m.deepest s.tr s.ow s11 s.pa s.re s.bp) :: (rE s.tr m.trace) :: (rI s.ow m.owners) :: (rC s11 (m.calls ++ [(⟨fn, (-1), dfr, 4, 0, arg⟩ : CallI)])) :: (rP s.pa s.us) :: (starL (unwL s.us)) :: (rV s.re m.recs) :: (mapA s.bp m.places) :: (SX.blk b6 [iv fn, iv (-1), .bool dfr, iv 4, iv 0, iv arg] 138) :: (FB bf (s.ca.n : Int) fn arg 0 0 0 (⟨none, 0, 0⟩) (.pointer none) dfr false false 1 (-1)) :: (parA (.pointer none) qv (setR1 none o)) :: Rs) := hS.pickN 11 [2, 3, 4, 5, 6, 7, 8, 9, 0, 1, 10] (by decide) rfl
      obtain ⟨m_2, hm_2⟩ : ∃ z_ : MS, z_ = (⟨m.made, m.shared, m.depth, m.deepest, m.trace, m.owners, (m.calls ++ [(⟨fn, (-1), dfr, 4, 0, arg⟩ : CallI)]), m.panics, m.recs, m.places⟩ : MS) := ⟨_, rfl⟩
      replace hS : Sat w0 w ((mch bm pv fuel m_2) :: (SX.blk b6 [iv fn, iv (-1), .bool dfr, iv 4, iv 0, iv arg] 138) :: (FB bf (s.ca.n : Int) fn arg 0 0 0 (⟨none, 0, 0⟩) (.pointer none) dfr false false 1 (-1)) :: (parA (.pointer none) qv (setR1 none o)) :: Rs) := by rw [hm_2]; exact Sat.shutM (⟨s.tr, s.ow, s11, s.pa, s.re, s.us, s.bp⟩ : MSl) (hs) hS
      refine p_op (o_ret ha (by decide) (iAt (op := (Op.call { callee := (Callee.value (Operand.func 121)), args := #[(Operand.tmp 59), (Operand.tmp 60), (Operand.tmp 61), (Operand.tmp 62), (Operand.tmp 66)], argTypes := #[65, 3, 3, 3, 3] })) (d := some 67) (ty := 0)) rfl Try.func121 (by kernel_rfl) (tell_calls w0 w _ bm pv fuel m_2 (if dfr = true then 3 else 1) fn arg (s.ca.n : Int) hS (by rw [hm_2]; simp only []; have := hm.bnd; have := hm.own; have := hm.made1; omega)) fun v13 w a hp14 ha => ?_)
      obtain ⟨rfl, hS⟩ := hp14
      obtain ⟨mA, hmA⟩ : ∃ z_ : MS, z_ = m_2.tell (if dfr = true then 3 else 1) fn arg (s.ca.n : Int) := ⟨_, rfl⟩
      have hS := hS
      rw [← hmA] at hS
      obtain ⟨sA, hsA, hS⟩ := Sat.openM hS
      replace hS : Sat w0 w ((MB bm pv fuel mA.made mA.shared mA.depth mA.deepest sA.tr sA.ow sA.ca sA.pa sA.re sA.bp) :: (rE sA.tr mA.trace) :: (rI sA.ow mA.owners) :: (rC sA.ca mA.calls) :: (rP sA.pa sA.us) :: (starL (unwL sA.us)) :: (rV sA.re mA.recs) :: (mapA sA.bp mA.places) :: (SX.blk b6 [iv fn, iv (-1), .bool dfr, iv 4, iv 0, iv arg] 138) :: (FB bf (s.ca.n : Int) fn arg 0 0 0 (⟨none, 0, 0⟩) (.pointer none) dfr false false 1 (-1)) :: (parA (.pointer none) qv (setR1 none o)) :: Rs) := hS
      have hdA : mA.depth = m.depth := by rw [hmA, hm_2]; rfl
      refine p_end ?_
      refine then_n ?_
      refine wp_seq ?_
      refine p_beginL [0, 1, 2, 3, 4, 5, 6, 7] ?_
      refine p_run [(0, 68, ptr bm 0), (1, 69, ptr bm 0), (2, 70, ptr bm 4)] ha fun a ha => ?_
      refine p_ld (d := 71) (b := bm) (j := 4) ha (hS.blk 0 rfl) rfl fun a ha => ?_
      refine p_val (v := iv (mA.depth + 1)) ha (by decide) ((v_pure (v := .int .i64 (IntKind.i64.wrap (mA.depth + 1))) ha (iAt (op := (Op.binOp BinOp.add 3 (Operand.tmp 71) (Operand.const (Value.int IntKind.i64 1)) 3)) (d := some 72) (ty := 3)) (by kernel_rfl) (fun _ => by kernel_rfl)).as (by rw [wrap_i64 (by omega) (by omega)])) (fun a ha => ?_)
      refine p_run [(5, 73, ptr bm 0), (6, 74, ptr bm 4)] ha fun a ha => ?_
      refine p_op (o_st bm 4 (iv (mA.depth + 1)) 0 ha hS rfl rfl fun w a hS ha => ?_)
      refine p_end ?_
      replace ha := ha.as [(0, ptr bm 0), (10, .pointer none), (11, ptr bf 0)] rfl
      refine then_n ?_
      refine wp_seq ?_
      refine d_start 12 13 hS fun w hS => ?_
      refine d_run (k := 9) [(0, 75, ptr bm 0), (1, 76, ptr bm 0), (2, 77, ptr bm 0), (3, 78, ptr bm 5)] ha (.inr hS) (pk_then (pk_body)) fun a ha => ?_
      refine d_ld 4 (d := 79) (b := bm) (j := 5) ha hS (pk_then (pk_body)) (fun _ hw => hw.blk 0 rfl) rfl fun a ha => ?_
      refine d_run (k := 5) [(5, 80, ptr bm 0), (6, 81, ptr bm 0), (7, 82, ptr bm 4)] ha (.inr hS) (pk_then (pk_body)) fun a ha => ?_
      refine d_ld 8 (d := 83) (b := bm) (j := 4) ha hS (pk_then (pk_body)) (fun _ hw => hw.blk 0 rfl) rfl fun a ha => ?_
      refine d_pure (i := 9) (v := iv (max mA.deepest (mA.depth + 1))) ha (by decide) ((v_pure (v := .int .i64 (if mA.deepest < (mA.depth + 1) then (mA.depth + 1) else mA.deepest)) ha (iAt (op := (Op.call { callee := (Callee.builtin Builtin.max), args := #[(Operand.tmp 79), (Operand.tmp 83)], argTypes := #[3, 3] })) (d := some 84) (ty := 3)) (by kernel_rfl) (fun _ => by kernel_rfl)).as (by congr 1; omega)) (.inr hS) (by kernel_rfl) (by kernel_rfl) (pk_then (pk_body)) fun a ha => ?_
      refine d_run (k := 1) [(10, 85, ptr bm 0), (11, 86, ptr bm 5)] ha (.inr hS) (pk_then (pk_body)) fun a ha => ?_
      refine d_one (i := 12) (by kernel_rfl) (o_st bm 5 (iv (max mA.deepest (mA.depth + 1))) 0 ha hS rfl rfl fun w a hS ha => ?_)
      refine ⟨.inl (by kernel_rfl), ?_⟩
      refine d_end (by kernel_rfl) ?_ _
      refine then_n ?_
      refine wp_seq ?_
      refine p_beginL [0, 1, 2] ?_
      refine p_run [(0, 87, ptr bm 0), (1, 88, ptr bf 0)] ha fun a ha => ?_
      replace hS : Sat w0 w ((MB bm pv fuel mA.made mA.shared (mA.depth + 1) (max mA.deepest (mA.depth + 1)) sA.tr sA.ow sA.ca sA.pa sA.re sA.bp) :: (rE sA.tr mA.trace) :: (rI sA.ow mA.owners) :: (rC sA.ca mA.calls) :: (rP sA.pa sA.us) :: (starL (unwL sA.us)) :: (rV sA.re mA.recs) :: (mapA sA.bp mA.places) :: (SX.blk b6 [iv fn, iv (-1), .bool dfr, iv 4, iv 0, iv arg] 138) :: (FB bf (s.ca.n : Int) fn arg 0 0 0 (⟨none, 0, 0⟩) (.pointer none) dfr false false 1 (-1)) :: (parA (.pointer none) qv (setR1 none o)) :: Rs) := hS
      obtain ⟨m_3, hm_3⟩ : ∃ z_ : MS, z_ = (⟨mA.made, mA.shared, (mA.depth + 1), (max mA.deepest (mA.depth + 1)), mA.trace, mA.owners, mA.calls, mA.panics, mA.recs, mA.places⟩ : MS) := ⟨_, rfl⟩
      replace hS : Sat w0 w ((mch bm pv fuel m_3) :: (SX.blk b6 [iv fn, iv (-1), .bool dfr, iv 4, iv 0, iv arg] 138) :: (FB bf (s.ca.n : Int) fn arg 0 0 0 (⟨none, 0, 0⟩) (.pointer none) dfr false false 1 (-1)) :: (parA (.pointer none) qv (setR1 none o)) :: Rs) := by rw [hm_3]; exact Sat.shutM (⟨sA.tr, sA.ow, sA.ca, sA.pa, sA.re, sA.us, sA.bp⟩ : MSl) (hsA) hS
      replace hS : Sat w0 w ((rQ (⟨none, 0, 0⟩) []) :: (mch bm pv fuel m_3) :: (SX.blk b6 [iv fn, iv (-1), .bool dfr, iv 4, iv 0, iv arg] 138) :: (FB bf (s.ca.n : Int) fn arg 0 0 0 (⟨none, 0, 0⟩) (.pointer none) dfr false false 1 (-1)) :: (parA (.pointer none) qv (setR1 none o)) :: Rs) := Sat.nilRow hS
      replace hS : Sat w0 w ((FB bf (s.ca.n : Int) fn arg 0 0 0 (⟨none, 0, 0⟩) (.pointer none) dfr false false 1 (-1)) :: (rQ (⟨none, 0, 0⟩) []) :: (mch bm pv fuel m_3) :: (SX.blk b6 [iv fn, iv (-1), .bool dfr, iv 4, iv 0, iv arg] 138) :: (parA (.pointer none) qv (setR1 none o)) :: Rs) := hS.pickN 5 [3, 0, 1, 2, 4] (by decide) rfl
      obtain ⟨f_1, hf_1⟩ : ∃ z_ : FS, z_ = (⟨(s.ca.n : Int), fn, arg, 0, 0, 0, [], dfr, false, false, 1, (-1)⟩ : FS) := ⟨_, rfl⟩
      replace hS : Sat w0 w ((frm bf f_1 (.pointer none)) :: (mch bm pv fuel m_3) :: (SX.blk b6 [iv fn, iv (-1), .bool dfr, iv 4, iv 0, iv arg] 138) :: (parA (.pointer none) qv (setR1 none o)) :: Rs) := by rw [hf_1]; exact Sat.shutF (⟨none, 0, 0⟩ : Sl) hS
      have e1 : m_3 = m.enter fn arg (parId none) dfr := by rw [hm_3, hmA, hm_2]; simp only [MS.enter, MS.tell, hcn, parId]
      have e2 : f_1 = m.frame fn arg dfr := by rw [hf_1]; simp only [MS.frame, hcn]
      replace hS : Sat w0 w ((mch bm pv fuel m_3) :: (frm bf f_1 (.pointer none)) :: (parA (.pointer none) qv (setR1 none o)) :: Rs) := hS.pickN 4 [1, 0, 3] (by decide) rfl
      replace hS : Sat w0 w ((mch bm pv fuel (m.enter fn arg (parId none) dfr)) :: (frm bf (m.frame fn arg dfr) (.pointer none)) :: (parA (.pointer none) qv (setR1 none o)) :: Rs) := by rw [e1, e2] at hS; exact hS
      have hme : OkM fuel (m.enter fn arg (parId none) dfr) (x + 1) := OkM.enter hm _ _ _ _
      have hfe := frame_ok (n := P.length) m fn arg (parId none) dfr h0 h1
      have hgp : OkP (m.enter fn arg (parId none) dfr) none := fun q hq => hp q hq
      refine p_op (o_call (Post := bodyPost_ w0 bm bf pv fuel Rs (.pointer none) qv none (bodyS fuel (callS P fuel d) (P.getD (m.frame fn arg dfr).fn.toNat []) none (fuel - (m.enter fn arg (parId none) dfr).made).toNat.succ (m.enter fn arg (parId none) dfr) (m.frame fn arg dfr) o 0)) ha (by decide) (iAt (op := (Op.call { callee := (Callee.value (Operand.func 122)), args := #[(Operand.tmp 87), (Operand.tmp 88)], argTypes := #[65, 130] })) (d := some 89) (ty := 0)) rfl Try.func122 (by kernel_rfl) (body_calls P hP d fuel bm pv sbs (IH d rfl) w0 w _ bf _ _ (.pointer none) qv none o (x + 1) hS (by simpa [MS.frame] using hme) hfe (by show m.depth + 1 + d = 8; omega) (by show 0 ≤ m.depth + 1; omega) (fun h => hdp h) hgp hPr) (fun v16 w a hp15 ha => ?_) (fun c_ w hp15 => then_p (?_)) (fun _ hp_ => hp_))
      rotate_left
      ·
        obtain ⟨m3, hres, rfl, hS9⟩ := hp15
        exact ⟨ha.defers, m3, by rw [← hR]; exact callS_spent (fn := fn) hres, rfl, hS9⟩
      obtain ⟨m3, f3, o3, hres, rfl, hS⟩ := hp15
      obtain ⟨hok3, hgr3, hof3⟩ := bodyS_ok (x := x + 1) (callS_ok hP fuel d) (body_steps hP h0 h1) _ _ _ _ _ (by simpa [MS.frame] using hme) hfe hres
      generalize hR2 : runsS (callS P fuel d) f3.runs.length m3 f3 none o3 = R2_
      have hRc : R_ = tailS R2_ := by rw [← hR, callS_done (fn := fn) hres, hR2]
      have ha : Has 143 [(0, ptr bm 0), (10, .pointer none), (11, ptr bf 0), (87, ptr bm 0), (88, ptr bf 0)] a := ha.keeps [0, 10, 11, 87, 88] _ rfl
      refine p_end ?_
      refine then_n ?_
      refine wp_seq ?_
      refine wp_block ?_
      replace hS : Sat w0 w ((mch bm pv fuel m3) :: (frm bf f3 (.pointer none)) :: (parA (.pointer none) qv (setR1 none o3)) :: Rs) := hS
      refine wp_loop_ghost (fun n_ a_ w_ => ∃ (k : Nat) (m1 : MS) (f1 : FS), n_ = (1 + k) ∧ (runsS (callS P fuel d) k m1 f1 none o3 = R2_) ∧ (f1.runs.length = k) ∧ (OkM fuel m1 (2 * f1.runs.length + (x + 1))) ∧ (OkF P.length m1 f1) ∧ (Grew m3 m1) ∧ Has 143 [(0, ptr bm 0), (11, ptr bf 0)] a_ ∧ Sat w0 w_ ((mch bm pv fuel m1) :: (frm bf f1 (.pointer none)) :: (parA (.pointer none) qv (setR1 none o3)) :: Rs)) _ ⟨_, m3, f3, rfl, hR2, rfl, hok3, hof3, Grew.refl _, ha.keeps [0, 11] _ rfl, hS⟩ ?_
      -- the loop's round
      rintro n_ a w ⟨k, m1, f1, rfl, hR_, hk, hok, hof, hgr, ha, hS⟩
      obtain ⟨s, t, hs, hS⟩ := Sat.openMF hS
      replace hS : Sat w0 w ((MB bm pv fuel m1.made m1.shared m1.depth m1.deepest s.tr s.ow s.ca s.pa s.re s.bp) :: (rE s.tr m1.trace) :: (rI s.ow m1.owners) :: (rC s.ca m1.calls) :: (rP s.pa s.us) :: (starL (unwL s.us)) :: (rV s.re m1.recs) :: (mapA s.bp m1.places) :: (FB bf f1.id f1.fn f1.r0 f1.r1 f1.r2 f1.r3 t (.pointer none) f1.dfr f1.cnt f1.lvg f1.en f1.pan) :: (rQ t f1.runs) :: (parA (.pointer none) qv (setR1 none o3)) :: Rs) := hS
      have htn : t.n = f1.runs.length := hS.rowL (s := t) (enc := cellsR) 9 cellsR_len (by decide) rfl
      have hrl : f1.runs.length ≤ 1000 := by have := hok.bnd; have := hok.made1; omega
      refine wp_seq ?_
      refine wp_seq ?_
      refine p_beginL [0, 1, 2, 3, 4, 5] ?_
      refine p_run [(0, 90, ptr bf 0), (1, 91, ptr bf 0), (2, 92, ptr bf 6)] ha fun a ha => ?_
      refine p_ld (d := 93) (b := bf) (j := 6) ha (hS.blk 8 rfl) rfl fun a ha => ?_
      refine p_run [(4, 94, iv (t.n : Int)), (5, 95, .bool (decide ((t.n : Int) > 0)))] ha fun a ha => ?_
      refine p_end ?_
      replace ha := ha.as [(0, ptr bm 0), (11, ptr bf 0), (90, ptr bf 0), (91, ptr bf 0), (92, ptr bf 6), (93, .slice t.A t.n t.c), (94, iv (t.n : Int)), (95, .bool (decide ((t.n : Int) > 0)))] rfl
      refine then_n ?_
      by_cases c17 : (t.n : Int) > 0
      ·
        refine c_true ha rfl (decide_eq_true c17) ?_
        refine wp_skip ?_
        refine then_n ?_
        refine wp_block ?_
        refine wp_seq ?_
        have hpos : 0 < f1.runs.length := by rw [← htn]; have := c17; omega
        obtain ⟨z, hz⟩ : ∃ z, f1.runs[t.n - 1]? = some z := ⟨_, List.getElem?_eq_getElem (by rw [htn]; omega)⟩
        have hzf := hof.runs z (List.mem_of_getElem? hz)
        have hlast : f1.runs.getLast? = some z := by rw [List.getLast?_eq_getElem?, ← htn]; exact hz
        obtain ⟨k', hks⟩ : ∃ k', k = k' + 1 := ⟨k - 1, by omega⟩
        have hdl : f1.runs.dropLast = f1.runs.take (t.n - 1) := by rw [List.dropLast_eq_take, htn]
        refine d_start 13 14 hS fun w hS => ?_
        refine d_run (k := 11) [(0, 96, ptr bf 0), (1, 97, ptr bf 0), (2, 98, ptr bf 6)] ha (.inr hS) (pk_then (pk_in (pk_then (pk_in (pk_then (pk_body)))))) fun a ha => ?_
        refine d_ld 3 (d := 99) (b := bf) (j := 6) ha hS (pk_then (pk_in (pk_then (pk_in (pk_then (pk_body)))))) (fun _ hw => hw.blk 8 rfl) rfl fun a ha => ?_
        refine d_run (k := 7) [(4, 100, ptr bf 0), (5, 101, ptr bf 0), (6, 102, ptr bf 6)] ha (.inr hS) (pk_then (pk_in (pk_then (pk_in (pk_then (pk_body)))))) fun a ha => ?_
        refine d_ld 7 (d := 103) (b := bf) (j := 6) ha hS (pk_then (pk_in (pk_then (pk_in (pk_then (pk_body)))))) (fun _ hw => hw.blk 8 rfl) rfl fun a ha => ?_
        refine d_run (k := 5) [(8, 104, iv (t.n : Int))] ha (.inr hS) (pk_then (pk_in (pk_then (pk_in (pk_then (pk_body)))))) fun a ha => ?_
        refine d_pure (i := 9) (v := iv ((t.n : Int) - 1)) ha (by decide) ((v_pure (v := .int .i64 (IntKind.i64.wrap ((t.n : Int) - 1))) ha (iAt (op := (Op.binOp BinOp.sub 3 (Operand.tmp 104) (Operand.const (Value.int IntKind.i64 1)) 3)) (d := some 105) (ty := 3)) (by kernel_rfl) (fun _ => by kernel_rfl)).as (by rw [wrap_i64 (by omega) (by omega)])) (.inr hS) (by kernel_rfl) (by kernel_rfl) (pk_then (pk_in (pk_then (pk_in (pk_then (pk_body)))))) fun a ha => ?_
        refine d_pure (i := 10) (v := .pointer (some ⟨bk t, (t.n - 1) * 2, none⟩)) ha (by decide) (v_indexO (s := t) (el := 171) (sz := 2) (j := (t.n - 1)) ha (iAt (op := (Op.indexAddr 132 (Operand.tmp 99) (Operand.tmp 105))) (d := some 106) (ty := 0)) rfl rfl (by kernel_rfl) (by kernel_rfl) (hS.rowA (s := t) 9 rfl (by have := (List.getElem?_eq_some_iff.1 hz).1; rw [encR_length]; omega)) ((by omega)) (by have h9 := hS.rowL (s := t) (enc := cellsR) 9 cellsR_len (by decide) rfl; have := (List.getElem?_eq_some_iff.1 hz).1; omega)) (.inr hS) (by kernel_rfl) (by kernel_rfl) (pk_then (pk_in (pk_then (pk_in (pk_then (pk_body)))))) fun a ha => ?_
        refine d_val (i := 11) (v := .agg #[iv z.1, iv z.2]) ha (by decide) (v_loadL (v := .agg #[iv z.1, iv z.2]) ha (iAt (op := (Op.load 171 (Operand.tmp 106))) (d := some 107) (ty := 171)) rfl (fun w' hw => run_loadVar_agg (vs := [iv z.1, iv z.2]) (by kernel_rfl) (fun i u hu => by match i, hu with | 0, hu => rw [add0]; rw [← Option.some.inj hu]; exact (((hw.rdC (s := t) 9 rfl)).cells _ _ ((flat_get (enc := cellsR) (o := 0) cellsR_len hz (by decide)).trans rfl)) | 1, hu => rw [add0]; rw [← Option.some.inj hu]; exact (((hw.rdC (s := t) 9 rfl)).cells _ _ ((flat_get (enc := cellsR) (o := 1) cellsR_len hz (by decide)).trans rfl)) | n + 2, hu => simp at hu))) hS (by kernel_rfl) (by kernel_rfl) (pk_then (pk_in (pk_then (pk_in (pk_then (pk_body)))))) fun a ha => ?_
        refine d_one (i := 12) (by kernel_rfl) (o_new (cs := [iv 0, iv 0]) (T := 171) (fun b => .pointer (some ⟨b, 0, none⟩)) ha (by decide) (iAt (op := (Op.alloc 171)) (d := some 14) (ty := 0)) (by kernel_rfl) hS (fun _ => by kernel_rfl) fun b18 w a hb19 hS ha => ?_)
        refine ⟨.inr (Sat.rest [_] hS), ?_⟩
        refine d_one (i := 13) (by kernel_rfl) (o_storeAgg 0 ha (iAt (op := (Op.store 171 (Operand.tmp 14) (Operand.tmp 107))) (ty := 0)) rfl rfl rfl (by kernel_rfl) hS rfl (Nat.le_of_ble_eq_true rfl) rfl fun w a hS ha => ?_)
        refine ⟨.inl (by kernel_rfl), ?_⟩
        refine d_end (by kernel_rfl) ?_ _
        refine then_n ?_
        refine wp_seq ?_
        refine d_start 14 15 hS fun w hS => ?_
        refine d_run (k := 11) [(0, 108, ptr bf 0), (1, 109, ptr bf 0), (2, 110, ptr bf 0), (3, 111, ptr bf 6)] ha (.inr hS) (pk_then (pk_in (pk_then (pk_in (pk_then (pk_body)))))) fun a ha => ?_
        refine d_ld 4 (d := 112) (b := bf) (j := 6) ha hS (pk_then (pk_in (pk_then (pk_in (pk_then (pk_body)))))) (fun _ hw => hw.blk 9 rfl) rfl fun a ha => ?_
        refine d_run (k := 7) [(5, 113, ptr bf 0), (6, 114, ptr bf 0), (7, 115, ptr bf 6)] ha (.inr hS) (pk_then (pk_in (pk_then (pk_in (pk_then (pk_body)))))) fun a ha => ?_
        refine d_ld 8 (d := 116) (b := bf) (j := 6) ha hS (pk_then (pk_in (pk_then (pk_in (pk_then (pk_body)))))) (fun _ hw => hw.blk 9 rfl) rfl fun a ha => ?_
        refine d_run (k := 5) [(9, 117, iv (t.n : Int))] ha (.inr hS) (pk_then (pk_in (pk_then (pk_in (pk_then (pk_body)))))) fun a ha => ?_
        refine d_pure (i := 10) (v := iv ((t.n : Int) - 1)) ha (by decide) ((v_pure (v := .int .i64 (IntKind.i64.wrap ((t.n : Int) - 1))) ha (iAt (op := (Op.binOp BinOp.sub 3 (Operand.tmp 117) (Operand.const (Value.int IntKind.i64 1)) 3)) (d := some 118) (ty := 3)) (by kernel_rfl) (fun _ => by kernel_rfl)).as (by rw [wrap_i64 (by omega) (by omega)])) (.inr hS) (by kernel_rfl) (by kernel_rfl) (pk_then (pk_in (pk_then (pk_in (pk_then (pk_body)))))) fun a ha => ?_
        refine d_pure (i := 11) (v := .slice t.A (t.n - 1) t.c) ha (by decide) (v_takeZ (el := 171) (j := t.n - 1) ha (iAt (op := (Op.slice 132 (Operand.tmp 112) none (some (Operand.tmp 118)) none)) (d := some 119) (ty := 132)) rfl rfl (by kernel_rfl) (by kernel_rfl) (by omega) (Nat.sub_le _ _) (row_cap hS 10 rfl)) (.inr hS) (by kernel_rfl) (by kernel_rfl) (pk_then (pk_in (pk_then (pk_in (pk_then (pk_body)))))) fun a ha => ?_
        refine d_run (k := 1) [(12, 120, ptr bf 0), (13, 121, ptr bf 6)] ha (.inr hS) (pk_then (pk_in (pk_then (pk_in (pk_then (pk_body)))))) fun a ha => ?_
        replace hS : Sat w0 w ((SX.blk b18 [iv z.1, iv z.2] 171) :: (MB bm pv fuel m1.made m1.shared m1.depth m1.deepest s.tr s.ow s.ca s.pa s.re s.bp) :: (rE s.tr m1.trace) :: (rI s.ow m1.owners) :: (rC s.ca m1.calls) :: (rP s.pa s.us) :: (starL (unwL s.us)) :: (rV s.re m1.recs) :: (mapA s.bp m1.places) :: (FB bf f1.id f1.fn f1.r0 f1.r1 f1.r2 f1.r3 t (.pointer none) f1.dfr f1.cnt f1.lvg f1.en f1.pan) :: (SX.row (.slice t.A (t.n - 1) t.c) 171 2 (encR (f1.runs.take (t.n - 1)))) :: (parA (.pointer none) qv (setR1 none o3)) :: Rs) := by have hh := Sat.rowTake hS 10 rfl (t.n - 1) (Nat.sub_le _ _); rw [show (encR f1.runs).take ((t.n - 1) * 2) = encR (f1.runs.take (t.n - 1)) from flat_take cellsR_len _ _] at hh; exact hh
        refine d_one (i := 14) (by kernel_rfl) (o_st bf 6 (.slice t.A (t.n - 1) t.c) 9 ha hS rfl rfl fun w a hS ha => ?_)
        refine ⟨.inl (by kernel_rfl), ?_⟩
        refine d_end (by kernel_rfl) ?_ _
        refine then_n ?_
        refine p_beginL [0, 1, 2, 3, 4, 5, 6, 7, 8, 9] ?_
        refine p_run [(0, 122, ptr bm 0), (1, 123, ptr bf 0), (2, 124, ptr bm 0), (3, 125, ptr b18 0)] ha fun a ha => ?_
        refine p_ld (d := 126) (b := b18) (j := 0) ha (hS.blk 0 rfl) rfl fun a ha => ?_
        refine p_run [(5, 127, ptr b18 1)] ha fun a ha => ?_
        refine p_ld (d := 128) (b := b18) (j := 1) ha (hS.blk 0 rfl) rfl fun a ha => ?_
        refine p_run [(7, 129, ptr bf 0)] ha fun a ha => ?_
        replace hS : Sat w0 w ((MB bm pv fuel m1.made m1.shared m1.depth m1.deepest s.tr s.ow s.ca s.pa s.re s.bp) :: (rE s.tr m1.trace) :: (rI s.ow m1.owners) :: (rC s.ca m1.calls) :: (rP s.pa s.us) :: (starL (unwL s.us)) :: (rV s.re m1.recs) :: (mapA s.bp m1.places) :: (SX.blk b18 [iv z.1, iv z.2] 171) :: (SX.blk bf [iv f1.id, iv f1.fn, iv f1.r0, iv f1.r1, iv f1.r2, iv f1.r3, .slice t.A (t.n - 1) t.c, .pointer none, .bool f1.dfr, .bool f1.cnt, .bool f1.lvg, iv f1.en, iv f1.pan] 134) :: (SX.row (.slice t.A (t.n - 1) t.c) 171 2 (encR (f1.runs.take (t.n - 1)))) :: (parA (.pointer none) qv (setR1 none o3)) :: Rs) := hS.pickN 12 [1, 2, 3, 4, 5, 6, 7, 8, 0, 9, 10, 11] (by decide) rfl
        obtain ⟨m_4, hm_4⟩ : ∃ z_ : MS, z_ = (⟨m1.made, m1.shared, m1.depth, m1.deepest, m1.trace, m1.owners, m1.calls, m1.panics, m1.recs, m1.places⟩ : MS) := ⟨_, rfl⟩
        replace hS : Sat w0 w ((mch bm pv fuel m_4) :: (SX.blk b18 [iv z.1, iv z.2] 171) :: (SX.blk bf [iv f1.id, iv f1.fn, iv f1.r0, iv f1.r1, iv f1.r2, iv f1.r3, .slice t.A (t.n - 1) t.c, .pointer none, .bool f1.dfr, .bool f1.cnt, .bool f1.lvg, iv f1.en, iv f1.pan] 134) :: (SX.row (.slice t.A (t.n - 1) t.c) 171 2 (encR (f1.runs.take (t.n - 1)))) :: (parA (.pointer none) qv (setR1 none o3)) :: Rs) := by rw [hm_4]; exact Sat.shutM (⟨s.tr, s.ow, s.ca, s.pa, s.re, s.us, s.bp⟩ : MSl) (hs) hS
        replace hS : Sat w0 w ((SX.blk bf [iv f1.id, iv f1.fn, iv f1.r0, iv f1.r1, iv f1.r2, iv f1.r3, .slice t.A (t.n - 1) t.c, .pointer none, .bool f1.dfr, .bool f1.cnt, .bool f1.lvg, iv f1.en, iv f1.pan] 134) :: (SX.row (.slice t.A (t.n - 1) t.c) 171 2 (encR (f1.runs.take (t.n - 1)))) :: (mch bm pv fuel m_4) :: (SX.blk b18 [iv z.1, iv z.2] 171) :: (parA (.pointer none) qv (setR1 none o3)) :: Rs) := hS.pickN 5 [2, 3, 0, 1, 4] (by decide) rfl
        obtain ⟨f_2, hf_2⟩ : ∃ z_ : FS, z_ = (⟨f1.id, f1.fn, f1.r0, f1.r1, f1.r2, f1.r3, (f1.runs.take (t.n - 1)), f1.dfr, f1.cnt, f1.lvg, f1.en, f1.pan⟩ : FS) := ⟨_, rfl⟩
        replace hS : Sat w0 w ((frm bf f_2 (.pointer none)) :: (mch bm pv fuel m_4) :: (SX.blk b18 [iv z.1, iv z.2] 171) :: (parA (.pointer none) qv (setR1 none o3)) :: Rs) := by rw [hf_2]; exact Sat.shutF (⟨t.A, (t.n - 1), t.c⟩ : Sl) hS
        have e1 : m_4 = m1 := hm_4
        have e2 : f_2 = ({ f1 with runs := f1.runs.dropLast } : FS) := by rw [hf_2, ← hdl]
        replace hS : Sat w0 w ((frm bf ({ f1 with runs := f1.runs.dropLast } : FS) (.pointer none)) :: (mch bm pv fuel m1) :: (SX.blk b18 [iv z.1, iv z.2] 171) :: (parA (.pointer none) qv (setR1 none o3)) :: Rs) := by rw [e1, e2] at hS; exact hS
        replace hS : Sat w0 w ((parA (.pointer (some ⟨bf, 0, none⟩)) (.pointer none) (setR1 (some ({ f1 with runs := f1.runs.dropLast } : FS)) f1.r1)) :: (mch bm pv fuel m1) :: (SX.blk b18 [iv z.1, iv z.2] 171) :: (parA (.pointer none) qv (setR1 none o3)) :: Rs) := Sat.shutPar hS
        replace hS : Sat w0 w ((mch bm pv fuel m1) :: (parA (.pointer (some ⟨bf, 0, none⟩)) (.pointer none) (setR1 (some ({ f1 with runs := f1.runs.dropLast } : FS)) f1.r1)) :: (SX.blk b18 [iv z.1, iv z.2] 171) :: (parA (.pointer none) qv (setR1 none o3)) :: Rs) := hS.pickN 4 [1, 0, 2, 3] (by decide) rfl
        refine p_op (o_call (Post := callPost w0 bm pv fuel ((SX.blk b18 [iv z.1, iv z.2] 171) :: (parA (.pointer none) qv (setR1 none o3)) :: Rs) (.pointer (some ⟨bf, 0, none⟩)) (.pointer none) (some ({ f1 with runs := f1.runs.dropLast } : FS)) (callS P fuel d m1 z.1 z.2 (some ({ f1 with runs := f1.runs.dropLast } : FS)) f1.r1 true)) ha (by decide) (iAt (op := (Op.call { callee := (Callee.value (Operand.func 114)), args := #[(Operand.tmp 124), (Operand.tmp 126), (Operand.tmp 128), (Operand.tmp 129), (Operand.const (Value.bool true))], argTypes := #[65, 3, 3, 130, 4] })) (d := some 130) (ty := 130)) rfl Try.func114 (by kernel_rfl) (IH d rfl w0 w _ m1 z.1 z.2 _ _ (some ({ f1 with runs := f1.runs.dropLast } : FS)) f1.r1 true (2 * f1.runs.dropLast.length + (x + 1)) hS (hok.less (by rw [List.length_dropLast]; omega)) (by rw [hgr.depth]; have := hgr3.depth; rw [this]; show m.depth + 1 + d = 8; omega) (by rw [hgr.depth]; have := hgr3.depth; rw [this]; show 0 ≤ m.depth + 1; omega) hzf.1 hzf.2 (fun _ => rfl) (fun q hq => by cases hq; exact hof.pan) (hPr.more [_, _])) (fun v21 w a hp20 ha => ?_) (fun c_ w hp20 => in_p (then_p (in_p (then_p (?_))))) (fun _ hp_ => hp_))
        rotate_left
        ·
          obtain ⟨m2, hres, rfl, hS9⟩ := hp20
          refine ⟨ha.defers, m2, ?_, rfl, ?_⟩
          · have h9 : R2_ = .spent m2 := by rw [← hR_, hks]; simp only [runsS, hlast]; rw [hres]
            rw [hRc, h9]; rfl
          · exact hS9.pickR (l := [_, SX.blk b18 [iv z.1, iv z.2] 171, parA (.pointer none) qv (setR1 none o3)]) [0] (by decide) [_] rfl
        obtain ⟨m2, dd, o1, bd, hres, rfl, hS⟩ := hp20
        obtain ⟨bf', hbf, hS⟩ := Sat.openPar (q := { ({ f1 with runs := f1.runs.dropLast } : FS) with r1 := o1 }) (Sat.front (l := [_, _]) hS)
        have hbf2 : bf' = bf := by simpa using hbf.symm
        rw [hbf2] at hS
        have hS := Sat.pickR (l := [frm bf ({ f1 with runs := f1.runs.dropLast, r1 := o1 } : FS) (.pointer none), mch bm pv fuel m2, frm bd dd (.pointer (some ⟨bf, 0, none⟩))]) hS [1, 0, 2] (by decide) [mch bm pv fuel m2, frm bf ({ f1 with runs := f1.runs.dropLast, r1 := o1 } : FS) (.pointer none), frm bd dd (.pointer (some ⟨bf, 0, none⟩))] rfl
        obtain ⟨hok2, hgr2, hofd⟩ := callS_ok hP fuel d m1 z.1 z.2 (some ({ f1 with runs := f1.runs.dropLast } : FS)) f1.r1 true m2 dd o1 (2 * f1.runs.dropLast.length + (x + 1)) (hok.less (by rw [List.length_dropLast]; omega)) hzf.1 hzf.2 hres
        have hof2 : OkF P.length m2 ({ f1 with runs := f1.runs.dropLast, r1 := o1 } : FS) := by have g := hof.grew hgr2; exact ⟨g.id0, g.id1, g.fn0, g.fn1, g.en, g.pan, fun z hz => g.runs z (List.dropLast_subset _ hz)⟩
        have ha : Has 143 [(0, ptr bm 0), (11, ptr bf 0), (90, ptr bf 0), (91, ptr bf 0), (92, ptr bf 6), (93, .slice t.A t.n t.c), (94, iv (t.n : Int)), (95, .bool (decide ((t.n : Int) > 0))), (96, ptr bf 0), (97, ptr bf 0), (98, ptr bf 6), (99, .slice t.A t.n t.c), (100, ptr bf 0), (101, ptr bf 0), (102, ptr bf 6), (103, .slice t.A t.n t.c), (104, iv (t.n : Int)), (105, iv ((t.n : Int) - 1)), (106, .pointer (some ⟨bk t, (t.n - 1) * 2, none⟩)), (107, .agg #[iv z.1, iv z.2]), (14, ptr b18 0), (108, ptr bf 0), (109, ptr bf 0), (110, ptr bf 0), (111, ptr bf 6), (112, .slice t.A t.n t.c), (113, ptr bf 0), (114, ptr bf 0), (115, ptr bf 6), (116, .slice t.A t.n t.c), (117, iv (t.n : Int)), (118, iv ((t.n : Int) - 1)), (119, .slice t.A (t.n - 1) t.c), (120, ptr bf 0), (121, ptr bf 6), (122, ptr bm 0), (123, ptr bf 0), (124, ptr bm 0), (125, ptr b18 0), (126, iv z.1), (127, ptr b18 1), (128, iv z.2), (129, ptr bf 0), (130, ptr bd 0)] a := ha.keeps [0, 11, 90, 91, 92, 93, 94, 95, 96, 97, 98, 99, 100, 101, 102, 103, 104, 105, 106, 107, 14, 108, 109, 110, 111, 112, 113, 114, 115, 116, 117, 118, 119, 120, 121, 122, 123, 124, 125, 126, 127, 128, 129, 130] _ rfl
        refine p_op (o_ret ha (by decide) (iAt (op := (Op.call { callee := (Callee.value (Operand.func 123)), args := #[(Operand.tmp 122), (Operand.tmp 123), (Operand.tmp 130)], argTypes := #[65, 130, 130] })) (d := some 131) (ty := 0)) rfl Try.func123 (by kernel_rfl) (behind_calls w0 w _ bm bf bd pv fuel m2 ({ f1 with runs := f1.runs.dropLast, r1 := o1 } : FS) dd (.pointer none) _ P.length hS hof2 hofd) fun v22 w a hp23 ha => ?_)
        obtain ⟨rfl, hS⟩ := hp23
        refine p_end ?_
        refine in_n ?_
        refine then_n ?_
        replace hS : Sat w0 w ((mch bm pv fuel (behindM m2 ({ f1 with runs := f1.runs.dropLast, r1 := o1 } : FS) dd)) :: (frm bf (behindF ({ f1 with runs := f1.runs.dropLast, r1 := o1 } : FS) dd) (.pointer none)) :: (parA (.pointer none) qv (setR1 none o3)) :: Rs) := hS.pickN 5 [0, 1, 4] (by decide) rfl
        obtain ⟨hb1, hb2, hb3⟩ := behind_ok hok2 hof2 hofd
        have hbr : (behindF ({ f1 with runs := f1.runs.dropLast, r1 := o1 } : FS) dd).runs = f1.runs.dropLast := by unfold behindF; (repeat' split) <;> rfl
        refine ⟨_, (show 1 + k' < 1 + k by omega), k', behindM m2 ({ f1 with runs := f1.runs.dropLast, r1 := o1 } : FS) dd, behindF ({ f1 with runs := f1.runs.dropLast, r1 := o1 } : FS) dd, rfl, ?_, ?_, ?_, hb3, (hgr.trans hgr2).trans hb2, ha.keeps [0, 11] _ rfl, hS⟩
        · rw [← hR_, hks]; simp only [runsS, hlast]; rw [hres]
        · rw [hbr, List.length_dropLast]; omega
        · rw [hbr]; exact hb1
      ·
        refine c_false ha rfl (decide_eq_false c17) ?_
        refine wp_exit ?_
        refine then_x ?_
        refine then_x ?_
        refine in_x ?_
        refine then_n ?_
        refine wp_seq ?_
        have hk0 : k = 0 := by rw [← hk, ← htn]; have := c17; omega
        refine p_beginL [0, 1, 2] ?_
        refine p_run [(0, 132, ptr bm 0), (1, 133, ptr bf 0)] ha fun a ha => ?_
        replace hS : Sat w0 w ((MB bm pv fuel m1.made m1.shared m1.depth m1.deepest s.tr s.ow s.ca s.pa s.re s.bp) :: (rE s.tr m1.trace) :: (rI s.ow m1.owners) :: (rC s.ca m1.calls) :: (rP s.pa s.us) :: (starL (unwL s.us)) :: (rV s.re m1.recs) :: (mapA s.bp m1.places) :: (FB bf f1.id f1.fn f1.r0 f1.r1 f1.r2 f1.r3 t (.pointer none) f1.dfr f1.cnt f1.lvg f1.en f1.pan) :: (rQ t f1.runs) :: (parA (.pointer none) qv (setR1 none o3)) :: Rs) := hS
        obtain ⟨m_5, hm_5⟩ : ∃ z_ : MS, z_ = (⟨m1.made, m1.shared, m1.depth, m1.deepest, m1.trace, m1.owners, m1.calls, m1.panics, m1.recs, m1.places⟩ : MS) := ⟨_, rfl⟩
        replace hS : Sat w0 w ((mch bm pv fuel m_5) :: (FB bf f1.id f1.fn f1.r0 f1.r1 f1.r2 f1.r3 t (.pointer none) f1.dfr f1.cnt f1.lvg f1.en f1.pan) :: (rQ t f1.runs) :: (parA (.pointer none) qv (setR1 none o3)) :: Rs) := by rw [hm_5]; exact Sat.shutM (⟨s.tr, s.ow, s.ca, s.pa, s.re, s.us, s.bp⟩ : MSl) (hs) hS
        replace hS : Sat w0 w ((FB bf f1.id f1.fn f1.r0 f1.r1 f1.r2 f1.r3 t (.pointer none) f1.dfr f1.cnt f1.lvg f1.en f1.pan) :: (rQ t f1.runs) :: (mch bm pv fuel m_5) :: (parA (.pointer none) qv (setR1 none o3)) :: Rs) := hS.pickN 4 [1, 2, 0, 3] (by decide) rfl
        obtain ⟨f_3, hf_3⟩ : ∃ z_ : FS, z_ = (⟨f1.id, f1.fn, f1.r0, f1.r1, f1.r2, f1.r3, f1.runs, f1.dfr, f1.cnt, f1.lvg, f1.en, f1.pan⟩ : FS) := ⟨_, rfl⟩
        replace hS : Sat w0 w ((frm bf f_3 (.pointer none)) :: (mch bm pv fuel m_5) :: (parA (.pointer none) qv (setR1 none o3)) :: Rs) := by rw [hf_3]; exact Sat.shutF t hS
        have e1 : m_5 = m1 := hm_5
        have e2 : f_3 = f1 := hf_3
        replace hS : Sat w0 w ((mch bm pv fuel m_5) :: (frm bf f_3 (.pointer none)) :: (parA (.pointer none) qv (setR1 none o3)) :: Rs) := hS.pickN 3 [1, 0, 2] (by decide) rfl
        replace hS : Sat w0 w ((mch bm pv fuel m1) :: (frm bf f1 (.pointer none)) :: (parA (.pointer none) qv (setR1 none o3)) :: Rs) := by rw [e1, e2] at hS; exact hS
        have hR3 : R2_ = .done m1 f1 o3 := by rw [← hR_, hk0]; rfl
        refine p_op (o_ret ha (by decide) (iAt (op := (Op.call { callee := (Callee.value (Operand.func 124)), args := #[(Operand.tmp 132), (Operand.tmp 133)], argTypes := #[65, 130] })) (d := some 134) (ty := 0)) rfl Try.func124 (by kernel_rfl) (finish_calls w0 w _ bm bf pv fuel m1 f1 (.pointer none) P.length _ hS hok hof) fun v24 w a hp25 ha => ?_)
        obtain ⟨rfl, hS⟩ := hp25
        obtain ⟨mB, hmB⟩ : ∃ z_ : MS, z_ = finishS m1 f1 := ⟨_, rfl⟩
        have hS := hS
        rw [← hmB] at hS
        obtain ⟨sB, hsB, hS⟩ := Sat.openM hS
        replace hS : Sat w0 w ((MB bm pv fuel mB.made mB.shared mB.depth mB.deepest sB.tr sB.ow sB.ca sB.pa sB.re sB.bp) :: (rE sB.tr mB.trace) :: (rI sB.ow mB.owners) :: (rC sB.ca mB.calls) :: (rP sB.pa sB.us) :: (starL (unwL sB.us)) :: (rV sB.re mB.recs) :: (mapA sB.bp mB.places) :: (frm bf f1 (.pointer none)) :: (parA (.pointer none) qv (setR1 none o3)) :: Rs) := hS
        have hdB : mB.depth = m.depth + 1 := by rw [hmB]; show m1.depth = _; rw [hgr.depth]; exact hgr3.depth
        refine p_end ?_
        refine then_n ?_
        refine wp_seq ?_
        refine p_beginL [0, 1, 2, 3, 4, 5, 6, 7] ?_
        refine p_run [(0, 135, ptr bm 0), (1, 136, ptr bm 0), (2, 137, ptr bm 4)] ha fun a ha => ?_
        refine p_ld (d := 138) (b := bm) (j := 4) ha (hS.blk 0 rfl) rfl fun a ha => ?_
        refine p_val (v := iv (mB.depth - 1)) ha (by decide) ((v_pure (v := .int .i64 (IntKind.i64.wrap (mB.depth - 1))) ha (iAt (op := (Op.binOp BinOp.sub 3 (Operand.tmp 138) (Operand.const (Value.int IntKind.i64 1)) 3)) (d := some 139) (ty := 3)) (by kernel_rfl) (fun _ => by kernel_rfl)).as (by rw [wrap_i64 (by omega) (by omega)])) (fun a ha => ?_)
        refine p_run [(5, 140, ptr bm 0), (6, 141, ptr bm 4)] ha fun a ha => ?_
        refine p_op (o_st bm 4 (iv (mB.depth - 1)) 0 ha hS rfl rfl fun w a hS ha => ?_)
        refine p_end ?_
        replace ha := ha.as [(11, ptr bf 0)] rfl
        refine then_n ?_
        refine wp_seq ?_
        refine p_beginL [0, 1] ?_
        refine p_run [(0, 142, ptr bf 0), (1, 10, ptr bf 0)] ha fun a ha => ?_
        refine p_end ?_
        refine then_n ?_
        refine wp_ret ?_
        replace hS : Sat w0 w ((MB bm pv fuel mB.made mB.shared (mB.depth - 1) mB.deepest sB.tr sB.ow sB.ca sB.pa sB.re sB.bp) :: (rE sB.tr mB.trace) :: (rI sB.ow mB.owners) :: (rC sB.ca mB.calls) :: (rP sB.pa sB.us) :: (starL (unwL sB.us)) :: (rV sB.re mB.recs) :: (mapA sB.bp mB.places) :: (frm bf f1 (.pointer none)) :: (parA (.pointer none) qv (setR1 none o3)) :: Rs) := hS
        obtain ⟨m_6, hm_6⟩ : ∃ z_ : MS, z_ = (⟨mB.made, mB.shared, (mB.depth - 1), mB.deepest, mB.trace, mB.owners, mB.calls, mB.panics, mB.recs, mB.places⟩ : MS) := ⟨_, rfl⟩
        replace hS : Sat w0 w ((mch bm pv fuel m_6) :: (frm bf f1 (.pointer none)) :: (parA (.pointer none) qv (setR1 none o3)) :: Rs) := by rw [hm_6]; exact Sat.shutM (⟨sB.tr, sB.ow, sB.ca, sB.pa, sB.re, sB.us, sB.bp⟩ : MSl) (hsB) hS
        replace hS : Sat w0 w ((mch bm pv fuel m_6) :: (frm bf f1 (.pointer none)) :: (parA (.pointer none) qv (setR1 none o3)) :: Rs) := hS
        refine end_tmp (t := 10) (v := .pointer (some ⟨bf, 0, none⟩)) ha (by kernel_rfl) rfl ?_
        have e9 : m_6 = { finishS m1 f1 with depth := m1.depth - 1 } := by rw [hm_6, hmB]; rfl
        rw [e9] at hS
        exact ⟨_, f1, o3, bf, by rw [hRc, hR3]; rfl, rfl, hS⟩
end SX
end Go.Proofs.Ytdbbafepjgnmeaa
end
section
namespace Go.Proofs.Ytdbbafepjgnmeaa
namespace SX
open Go.RowKit
set_option linter.unusedVariables false
set_option linter.unusedSimpArgs false
set_option maxRecDepth 20000 in
set_option maxHeartbeats 1000000 in
theorem call_some (P : List (List Stp)) (hP : ProgOk P) (D : Nat) (fuel : Int) (bm : Nat) (pv : Sl) (sbs : List Sl) (IH : ∀ d, D = d + 1 → CallC P fuel bm pv sbs d) (w0 w : World) (Rs : List Asn) (m : MS) (fn arg : Int) (bq : Nat) (q : FS) (qv : Value) (o : Int) (dfr : Bool) (x : Nat) (hS : Sat w0 w (mch bm pv fuel m :: frm bq { q with r1 := o } qv :: Rs)) (hm : OkM fuel m (x + 2)) (hdep : m.depth + D = 8) (hd0 : 0 ≤ m.depth) (h0 : 0 ≤ fn) (h1 : fn < P.length) (hdp : dfr = true → ((some q) : Option FS).isSome = true) (hp : OkP m (some q)) (hPr : Keeps w0 Rs (fun w => RdProg w pv sbs P)) :
    Calls Try.prog 114 #[.pointer (some ⟨bm, 0, none⟩), .int .i64 fn, .int .i64 arg, ptr bq 0, .bool dfr] w (callPost w0 bm pv fuel Rs (ptr bq 0) qv (some q) (callS P fuel D m fn arg (some q) o dfr)) := by
  have hcbd := hm.bnd
  have hcm := hm.made1
  have hcc := hm.calls
  have hfit : m.calls.length ≤ 1000 := by omega
  obtain ⟨s, hs, hS⟩ := Sat.openM hS
  replace hS : Sat w0 w ((MB bm pv fuel m.made m.shared m.depth m.deepest s.tr s.ow s.ca s.pa s.re s.bp) :: (rE s.tr m.trace) :: (rI s.ow m.owners) :: (rC s.ca m.calls) :: (rP s.pa s.us) :: (starL (unwL s.us)) :: (rV s.re m.recs) :: (mapA s.bp m.places) :: frm bq { q with r1 := o } qv :: Rs) := hS
  obtain ⟨tq, hS⟩ := Sat.openF (Sat.front (l := mchL bm pv fuel m s) hS)
  replace hS := Sat.comm2 (k := mchL bm pv fuel m s) hS
  replace hS : Sat w0 w ((MB bm pv fuel m.made m.shared m.depth m.deepest s.tr s.ow s.ca s.pa s.re s.bp) :: (rE s.tr m.trace) :: (rI s.ow m.owners) :: (rC s.ca m.calls) :: (rP s.pa s.us) :: (starL (unwL s.us)) :: (rV s.re m.recs) :: (mapA s.bp m.places) :: (FB bq q.id q.fn q.r0 o q.r2 q.r3 tq (qv) q.dfr q.cnt q.lvg q.en q.pan) :: (rQ tq q.runs) :: Rs) := hS
  have hcn : s.ca.n = m.calls.length := hS.rowL (s := s.ca) (enc := cellsC) 3 cellsC_len (by decide) rfl
  refine enter (n := 143) Try.func114 code114 (by kernel_rfl) (Nat.le_of_ble_eq_true rfl) (fun a ha => ?_)
  replace ha : Has 143 [(0, ptr bm 0), (1, iv fn), (2, iv arg), (3, ptr bq 0), (4, .bool dfr)] a := ha
  refine wp_seq ?_
  refine p_beginL [0] ?_
  refine p_run [(0, 10, .pointer none)] ha fun a ha => ?_
  refine p_end ?_
  refine then_n ?_
  refine wp_seq ?_
  refine wp_seq ?_
  refine p_beginL [0, 1, 2, 3, 4] ?_
  refine p_run [(0, 15, ptr bm 0), (1, 16, ptr bm 0), (2, 17, ptr bm 4)] ha fun a ha => ?_
  refine p_ld (d := 18) (b := bm) (j := 4) ha (hS.blk 0 rfl) rfl fun a ha => ?_
  refine p_run [(4, 19, .bool (decide (m.depth = 8)))] ha fun a ha => ?_
  refine p_end ?_
  refine then_n ?_
  by_cases c1 : m.depth = 8
  ·
    refine c_true ha rfl (decide_eq_true c1) ?_
    refine p_beginL [0, 1, 2] ?_
    refine p_run [(0, 20, .agg #[]), (1, 21, .iface 162 (.agg #[]))] ha fun a ha => ?_
    refine p_op (o_panic ha (iAt (op := (Op.panic (Operand.tmp 21))) (ty := 0)) rfl (then_p (?_)))
    replace hS : Sat w0 w ((MB bm pv fuel m.made m.shared m.depth m.deepest s.tr s.ow s.ca s.pa s.re s.bp) :: (rE s.tr m.trace) :: (rI s.ow m.owners) :: (rC s.ca m.calls) :: (rP s.pa s.us) :: (starL (unwL s.us)) :: (rV s.re m.recs) :: (mapA s.bp m.places) :: (FB bq q.id q.fn q.r0 o q.r2 q.r3 tq (qv) q.dfr q.cnt q.lvg q.en q.pan) :: (rQ tq q.runs) :: Rs) := hS
    obtain ⟨m_1, hm_1⟩ : ∃ z_ : MS, z_ = (⟨m.made, m.shared, m.depth, m.deepest, m.trace, m.owners, m.calls, m.panics, m.recs, m.places⟩ : MS) := ⟨_, rfl⟩
    replace hS : Sat w0 w ((mch bm pv fuel m_1) :: (FB bq q.id q.fn q.r0 o q.r2 q.r3 tq (qv) q.dfr q.cnt q.lvg q.en q.pan) :: (rQ tq q.runs) :: Rs) := by rw [hm_1]; exact Sat.shutM (⟨s.tr, s.ow, s.ca, s.pa, s.re, s.us, s.bp⟩ : MSl) (hs) hS
    have e1 : m_1 = m := hm_1
    have hD : D = 0 := by have := c1; omega
    refine ⟨ha.defers, m, by rw [hD]; rfl, rfl, ?_⟩
    rw [e1] at hS
    exact hS.pickR (l := [_, FB bq q.id q.fn q.r0 o q.r2 q.r3 tq (qv) q.dfr q.cnt q.lvg q.en q.pan, rQ tq q.runs]) [0] (by decide) [_] rfl
  ·
    obtain ⟨d, rfl⟩ : ∃ d, D = d + 1 := ⟨D - 1, by have := c1; omega⟩
    generalize hR : callS P fuel (d + 1) m fn arg (some q) o dfr = R_
    refine c_false ha rfl (decide_eq_false c1) ?_
    refine wp_skip ?_
    refine then_n ?_
    refine wp_seq ?_
    refine p_beginL [0, 1, 2, 3, 4, 5, 6, 7, 8, 9, 10] ?_
    refine p_run [(0, 22, ptr bm 0), (1, 23, ptr bm 0), (2, 24, ptr bm 8)] ha fun a ha => ?_
    refine p_ld (d := 25) (b := bm) (j := 8) ha (hS.blk 0 rfl) rfl fun a ha => ?_
    refine p_run [(4, 26, iv (s.ca.n : Int)), (5, 27, iv fn), (6, 28, ptr bq 0), (7, 29, .bool dfr), (8, 30, .agg #[iv (s.ca.n : Int), iv fn, iv 0, iv 0, iv 0, iv 0, .slice none 0 0, ptr bq 0, .bool dfr, .bool false, .bool false, iv 1, iv (-1)])] ha fun a ha => ?_
    refine p_op (o_new (cs := [iv (s.ca.n : Int), iv fn, iv 0, iv 0, iv 0, iv 0, .slice none 0 0, ptr bq 0, .bool dfr, .bool false, .bool false, iv 1, iv (-1)]) (T := 134) (fun b => .pointer (some ⟨b, 0, none⟩)) ha (by decide) (iAt (op := (Op.box 134 (Operand.tmp 30))) (d := some 31) (ty := 130)) (by kernel_rfl) hS (fun _ => by kernel_rfl) fun bf w a hb2 hS ha => ?_)
    refine p_run [(10, 11, ptr bf 0)] ha fun a ha => ?_
    refine p_end ?_
    refine then_n ?_
    refine wp_seq ?_
    refine p_beginL [0, 1, 2, 3, 4, 5] ?_
    refine p_run [(0, 32, ptr bf 0), (1, 33, iv arg), (2, 34, ptr bf 0), (3, 35, ptr bf 2), (4, 36, ptr bf 2)] ha fun a ha => ?_
    refine p_op (o_st bf 2 (iv arg) 0 ha hS rfl rfl fun w a hS ha => ?_)
    refine p_end ?_
    replace ha := ha.as [(0, ptr bm 0), (1, iv fn), (2, iv arg), (3, ptr bq 0), (4, .bool dfr), (10, .pointer none), (11, ptr bf 0)] rfl
    refine then_n ?_
    refine wp_seq ?_
    refine p_beginL [0, 1] ?_
    refine p_run [(0, 12, iv (-1)), (1, 13, iv 1)] ha fun a ha => ?_
    refine p_end ?_
    refine then_n ?_
    refine wp_seq ?_
    refine wp_seq ?_
    refine p_beginL [0, 1] ?_
    refine p_run [(0, 37, ptr bq 0), (1, 38, .bool true)] ha fun a ha => ?_
    refine p_end ?_
    refine then_n ?_
    refine c_true ha rfl rfl ?_
    refine p_beginL [0, 1, 2, 3, 4] ?_
    refine p_run [(0, 39, ptr bq 0), (1, 40, ptr bq 0), (2, 41, ptr bq 0)] ha fun a ha => ?_
    refine p_ld (d := 42) (b := bq) (j := 0) ha (hS.blk 9 rfl) rfl fun a ha => ?_
    refine p_run [(4, 12, iv q.id)] ha fun a ha => ?_
    refine p_end ?_
    refine then_n ?_
    refine wp_seq ?_
    refine wp_seq ?_
    refine p_beginL [0] ?_
    refine p_run [(0, 43, .bool dfr)] ha fun a ha => ?_
    refine p_end ?_
    refine then_n ?_
    refine then_cut (J := fun a_ w_ => Has 143 [(0, ptr bm 0), (1, iv fn), (2, iv arg), (4, .bool dfr), (10, .pointer none), (11, ptr bf 0), (13, iv (if dfr = true then 3 else 1)), (12, iv q.id), (43, .bool dfr)] a_ ∧ Sat w0 w_ ((FB bf (s.ca.n : Int) fn arg 0 0 0 (⟨none, 0, 0⟩) (ptr bq 0) dfr false false 1 (-1)) :: (MB bm pv fuel m.made m.shared m.depth m.deepest s.tr s.ow s.ca s.pa s.re s.bp) :: (rE s.tr m.trace) :: (rI s.ow m.owners) :: (rC s.ca m.calls) :: (rP s.pa s.us) :: (starL (unwL s.us)) :: (rV s.re m.recs) :: (mapA s.bp m.places) :: (FB bq q.id q.fn q.r0 o q.r2 q.r3 tq (qv) q.dfr q.cnt q.lvg q.en q.pan) :: (rQ tq q.runs) :: Rs)) ?_ ?_
    ·
      rcases Bool.eq_false_or_eq_true dfr with c3 | c3
      ·
        refine c_true ha rfl c3 ?_
        refine p_beginL [0] ?_
        refine p_run [(0, 13, iv 3)] ha fun a ha => ?_
        refine p_end ?_
        have e4 : ((if dfr = true then 3 else 1) : Int) = 3 := by simp [c1, c3]
        refine then_n ⟨?_, ?_⟩
        · first | (rw [e4]; exact ha.keeps [0, 1, 2, 4, 10, 11, 13, 12, 43] _ rfl) | exact ha.keeps [0, 1, 2, 4, 10, 11, 13, 12, 43] _ rfl
        · first | (rw [e4]; exact hS) | exact hS
      ·
        refine c_false ha rfl c3 ?_
        refine wp_skip ?_
        have e5 : ((if dfr = true then 3 else 1) : Int) = 1 := by simp [c1, c3]
        refine then_n ⟨?_, ?_⟩
        · first | (rw [e5]; exact ha.keeps [0, 1, 2, 4, 10, 11, 13, 12, 43] _ rfl) | exact ha.keeps [0, 1, 2, 4, 10, 11, 13, 12, 43] _ rfl
        · first | (rw [e5]; exact hS) | exact hS
    ·
      rintro a w ⟨ha, hS⟩
      refine wp_seq ?_
      refine p_beginL [0, 1, 2, 3, 4, 5, 6, 7, 8, 9, 10, 11, 12, 13, 14, 15] ?_
      refine p_run [(0, 44, ptr bm 0), (1, 45, ptr bm 0), (2, 46, ptr bm 0), (3, 47, ptr bm 8)] ha fun a ha => ?_
      refine p_ld (d := 48) (b := bm) (j := 8) ha (hS.blk 1 rfl) rfl fun a ha => ?_
      refine p_run [(5, 49, iv fn), (6, 50, iv q.id), (7, 51, .bool dfr), (8, 52, .agg #[iv fn, iv q.id, .bool dfr, iv 4, iv 0]), (9, 53, iv arg), (10, 54, .agg #[iv fn, iv q.id, .bool dfr, iv 4, iv 0, iv arg])] ha fun a ha => ?_
      refine p_op (o_new (cs := [iv fn, iv q.id, .bool dfr, iv 4, iv 0, iv arg]) (T := 138) (fun b => .slice (some ⟨b, 0, none⟩) 1 1) ha (by decide) (iAt (op := (Op.buildSlice 68 1 #[(0, (Operand.tmp 54))])) (d := some 55) (ty := 68)) (by kernel_rfl) hS (fun _ => by kernel_rfl) fun b6 w a hb7 hS ha => ?_)
      refine p_op (o_appE (news := [iv fn, iv q.id, .bool dfr, iv 4, iv 0, iv arg]) (z := .agg #[iv 0, iv 0, .bool false, iv 0, iv 0, iv 0]) (sz := 6) (bytes := 48) (T2 := 138) (xs' := encC (m.calls ++ [(⟨fn, q.id, dfr, 4, 0, arg⟩ : CallI)])) 5 0 ha (by decide) (iAt (op := (Op.call { callee := (Callee.builtin Builtin.append), args := #[(Operand.tmp 48), (Operand.tmp 55)], argTypes := #[68, 68] })) (d := some 56) (ty := 68)) rfl rfl (by kernel_rfl) (by kernel_rfl) rfl (by decide) hS rfl rfl (by simp) rfl (by rw [encC_length]; simp only [List.length_cons, List.length_nil]; have := hfit; omega) (by decide) (encC_snoc _ _ _ _ _ _ _) fun s11 w a hS hn12 ha => ?_)
      refine p_run [(13, 57, ptr bm 0), (14, 58, ptr bm 8)] ha fun a ha => ?_
      refine p_op (o_st bm 8 (.slice s11.A s11.n s11.c) 2 ha hS rfl rfl fun w a hS ha => ?_)
      refine p_end ?_
      replace ha := ha.as [(0, ptr bm 0), (1, iv fn), (2, iv arg), (10, .pointer none), (11, ptr bf 0), (13, iv (if dfr = true then 3 else 1))] rfl
      refine then_n ?_
      refine wp_seq ?_
      refine p_beginL [0, 1, 2, 3, 4, 5, 6, 7, 8] ?_
      refine p_run [(0, 59, ptr bm 0), (1, 60, iv (if dfr = true then 3 else 1)), (2, 61, iv fn), (3, 62, iv arg), (4, 63, ptr bf 0), (5, 64, ptr bf 0), (6, 65, ptr bf 0)] ha fun a ha => ?_
      refine p_ld (d := 66) (b := bf) (j := 0) ha (hS.blk 1 rfl) rfl fun a ha => ?_
      replace hS : Sat w0 w ((MB bm pv fuel m.made m.shared m.depth m.deepest s.tr s.ow s11 s.pa s.re s.bp) :: (rE s.tr m.trace) :: (rI s.ow m.owners) :: (rC s11 (m.calls ++ [(⟨fn, q.id, dfr, 4, 0, arg⟩ : CallI)])) :: (rP s.pa s.us) :: (starL (unwL s.us)) :: (rV s.re m.recs) :: (mapA s.bp m.places) :: (SX.blk b6 [iv fn, iv q.id, .bool dfr, iv 4, iv 0, iv arg] 138) :: (FB bf (s.ca.n : Int) fn arg 0 0 0 (⟨none, 0, 0⟩) (ptr bq 0) dfr false false 1 (-1)) :: (FB bq q.id q.fn q.r0 o q.r2 q.r3 tq (qv) q.dfr q.cnt q.lvg q.en q.pan) :: (rQ tq q.runs) :: Rs) := hS.pickN 12 [2, 3, 4, 5, 6, 7, 8, 9, 0, 1, 10, 11] (by decide) rfl
      obtain ⟨m_2, hm_2⟩ : ∃ z_ : MS, z_ = (⟨m.made, m.shared, m.depth, m.deepest, m.trace, m.owners, (m.calls ++ [(⟨fn, q.id, dfr, 4, 0, arg⟩ : CallI)]), m.panics, m.recs, m.places⟩ : MS) := ⟨_, rfl⟩
      replace hS : Sat w0 w ((mch bm pv fuel m_2) :: (SX.blk b6 [iv fn, iv q.id, .bool dfr, iv 4, iv 0, iv arg] 138) :: (FB bf (s.ca.n : Int) fn arg 0 0 0 (⟨none, 0, 0⟩) (ptr bq 0) dfr false false 1 (-1)) :: (FB bq q.id q.fn q.r0 o q.r2 q.r3 tq (qv) q.dfr q.cnt q.lvg q.en q.pan) :: (rQ tq q.runs) :: Rs) := by rw [hm_2]; exact Sat.shutM (⟨s.tr, s.ow, s11, s.pa, s.re, s.us, s.bp⟩ : MSl) (hs) hS
      refine p_op (o_ret ha (by decide) (iAt (op := (Op.call { callee := (Callee.value (Operand.func 121)), args := #[(Operand.tmp 59), (Operand.tmp 60), (Operand.tmp 61), (Operand.tmp 62), (Operand.tmp 66)], argTypes := #[65, 3, 3, 3, 3] })) (d := some 67) (ty := 0)) rfl Try.func121 (by kernel_rfl) (tell_calls w0 w _ bm pv fuel m_2 (if dfr = true then 3 else 1) fn arg (s.ca.n : Int) hS (by rw [hm_2]; simp only []; have := hm.bnd; have := hm.own; have := hm.made1; omega)) fun v13 w a hp14 ha => ?_)
      obtain ⟨rfl, hS⟩ := hp14
      obtain ⟨mA, hmA⟩ : ∃ z_ : MS, z_ = m_2.tell (if dfr = true then 3 else 1) fn arg (s.ca.n : Int) := ⟨_, rfl⟩
      have hS := hS
      rw [← hmA] at hS
      obtain ⟨sA, hsA, hS⟩ := Sat.openM hS
      replace hS : Sat w0 w ((MB bm pv fuel mA.made mA.shared mA.depth mA.deepest sA.tr sA.ow sA.ca sA.pa sA.re sA.bp) :: (rE sA.tr mA.trace) :: (rI sA.ow mA.owners) :: (rC sA.ca mA.calls) :: (rP sA.pa sA.us) :: (starL (unwL sA.us)) :: (rV sA.re mA.recs) :: (mapA sA.bp mA.places) :: (SX.blk b6 [iv fn, iv q.id, .bool dfr, iv 4, iv 0, iv arg] 138) :: (FB bf (s.ca.n : Int) fn arg 0 0 0 (⟨none, 0, 0⟩) (ptr bq 0) dfr false false 1 (-1)) :: (FB bq q.id q.fn q.r0 o q.r2 q.r3 tq (qv) q.dfr q.cnt q.lvg q.en q.pan) :: (rQ tq q.runs) :: Rs) := hS
      have hdA : mA.depth = m.depth := by rw [hmA, hm_2]; rfl
      refine p_end ?_
      refine then_n ?_
      refine wp_seq ?_
      refine p_beginL [0, 1, 2, 3, 4, 5, 6, 7] ?_
      refine p_run [(0, 68, ptr bm 0), (1, 69, ptr bm 0), (2, 70, ptr bm 4)] ha fun a ha => ?_
      refine p_ld (d := 71) (b := bm) (j := 4) ha (hS.blk 0 rfl) rfl fun a ha => ?_
      refine p_val (v := iv (mA.depth + 1)) ha (by decide) ((v_pure (v := .int .i64 (IntKind.i64.wrap (mA.depth + 1))) ha (iAt (op := (Op.binOp BinOp.add 3 (Operand.tmp 71) (Operand.const (Value.int IntKind.i64 1)) 3)) (d := some 72) (ty := 3)) (by kernel_rfl) (fun _ => by kernel_rfl)).as (by rw [wrap_i64 (by omega) (by omega)])) (fun a ha => ?_)
      refine p_run [(5, 73, ptr bm 0), (6, 74, ptr bm 4)] ha fun a ha => ?_
      refine p_op (o_st bm 4 (iv (mA.depth + 1)) 0 ha hS rfl rfl fun w a hS ha => ?_)
      refine p_end ?_
      replace ha := ha.as [(0, ptr bm 0), (10, .pointer none), (11, ptr bf 0)] rfl
      refine then_n ?_
      refine wp_seq ?_
      refine d_start 12 13 hS fun w hS => ?_
      refine d_run (k := 9) [(0, 75, ptr bm 0), (1, 76, ptr bm 0), (2, 77, ptr bm 0), (3, 78, ptr bm 5)] ha (.inr hS) (pk_then (pk_body)) fun a ha => ?_
      refine d_ld 4 (d := 79) (b := bm) (j := 5) ha hS (pk_then (pk_body)) (fun _ hw => hw.blk 0 rfl) rfl fun a ha => ?_
      refine d_run (k := 5) [(5, 80, ptr bm 0), (6, 81, ptr bm 0), (7, 82, ptr bm 4)] ha (.inr hS) (pk_then (pk_body)) fun a ha => ?_
      refine d_ld 8 (d := 83) (b := bm) (j := 4) ha hS (pk_then (pk_body)) (fun _ hw => hw.blk 0 rfl) rfl fun a ha => ?_
      refine d_pure (i := 9) (v := iv (max mA.deepest (mA.depth + 1))) ha (by decide) ((v_pure (v := .int .i64 (if mA.deepest < (mA.depth + 1) then (mA.depth + 1) else mA.deepest)) ha (iAt (op := (Op.call { callee := (Callee.builtin Builtin.max), args := #[(Operand.tmp 79), (Operand.tmp 83)], argTypes := #[3, 3] })) (d := some 84) (ty := 3)) (by kernel_rfl) (fun _ => by kernel_rfl)).as (by congr 1; omega)) (.inr hS) (by kernel_rfl) (by kernel_rfl) (pk_then (pk_body)) fun a ha => ?_
      refine d_run (k := 1) [(10, 85, ptr bm 0), (11, 86, ptr bm 5)] ha (.inr hS) (pk_then (pk_body)) fun a ha => ?_
      refine d_one (i := 12) (by kernel_rfl) (o_st bm 5 (iv (max mA.deepest (mA.depth + 1))) 0 ha hS rfl rfl fun w a hS ha => ?_)
      refine ⟨.inl (by kernel_rfl), ?_⟩
      refine d_end (by kernel_rfl) ?_ _
      refine then_n ?_
      refine wp_seq ?_
      refine p_beginL [0, 1, 2] ?_
      refine p_run [(0, 87, ptr bm 0), (1, 88, ptr bf 0)] ha fun a ha => ?_
      replace hS : Sat w0 w ((MB bm pv fuel mA.made mA.shared (mA.depth + 1) (max mA.deepest (mA.depth + 1)) sA.tr sA.ow sA.ca sA.pa sA.re sA.bp) :: (rE sA.tr mA.trace) :: (rI sA.ow mA.owners) :: (rC sA.ca mA.calls) :: (rP sA.pa sA.us) :: (starL (unwL sA.us)) :: (rV sA.re mA.recs) :: (mapA sA.bp mA.places) :: (SX.blk b6 [iv fn, iv q.id, .bool dfr, iv 4, iv 0, iv arg] 138) :: (FB bf (s.ca.n : Int) fn arg 0 0 0 (⟨none, 0, 0⟩) (ptr bq 0) dfr false false 1 (-1)) :: (FB bq q.id q.fn q.r0 o q.r2 q.r3 tq (qv) q.dfr q.cnt q.lvg q.en q.pan) :: (rQ tq q.runs) :: Rs) := hS
      obtain ⟨m_3, hm_3⟩ : ∃ z_ : MS, z_ = (⟨mA.made, mA.shared, (mA.depth + 1), (max mA.deepest (mA.depth + 1)), mA.trace, mA.owners, mA.calls, mA.panics, mA.recs, mA.places⟩ : MS) := ⟨_, rfl⟩
      replace hS : Sat w0 w ((mch bm pv fuel m_3) :: (SX.blk b6 [iv fn, iv q.id, .bool dfr, iv 4, iv 0, iv arg] 138) :: (FB bf (s.ca.n : Int) fn arg 0 0 0 (⟨none, 0, 0⟩) (ptr bq 0) dfr false false 1 (-1)) :: (FB bq q.id q.fn q.r0 o q.r2 q.r3 tq (qv) q.dfr q.cnt q.lvg q.en q.pan) :: (rQ tq q.runs) :: Rs) := by rw [hm_3]; exact Sat.shutM (⟨sA.tr, sA.ow, sA.ca, sA.pa, sA.re, sA.us, sA.bp⟩ : MSl) (hsA) hS
      replace hS : Sat w0 w ((rQ (⟨none, 0, 0⟩) []) :: (mch bm pv fuel m_3) :: (SX.blk b6 [iv fn, iv q.id, .bool dfr, iv 4, iv 0, iv arg] 138) :: (FB bf (s.ca.n : Int) fn arg 0 0 0 (⟨none, 0, 0⟩) (ptr bq 0) dfr false false 1 (-1)) :: (FB bq q.id q.fn q.r0 o q.r2 q.r3 tq (qv) q.dfr q.cnt q.lvg q.en q.pan) :: (rQ tq q.runs) :: Rs) := Sat.nilRow hS
      replace hS : Sat w0 w ((FB bf (s.ca.n : Int) fn arg 0 0 0 (⟨none, 0, 0⟩) (ptr bq 0) dfr false false 1 (-1)) :: (rQ (⟨none, 0, 0⟩) []) :: (mch bm pv fuel m_3) :: (SX.blk b6 [iv fn, iv q.id, .bool dfr, iv 4, iv 0, iv arg] 138) :: (FB bq q.id q.fn q.r0 o q.r2 q.r3 tq (qv) q.dfr q.cnt q.lvg q.en q.pan) :: (rQ tq q.runs) :: Rs) := hS.pickN 6 [3, 0, 1, 2, 4, 5] (by decide) rfl
      obtain ⟨f_1, hf_1⟩ : ∃ z_ : FS, z_ = (⟨(s.ca.n : Int), fn, arg, 0, 0, 0, [], dfr, false, false, 1, (-1)⟩ : FS) := ⟨_, rfl⟩
      replace hS : Sat w0 w ((frm bf f_1 (ptr bq 0)) :: (mch bm pv fuel m_3) :: (SX.blk b6 [iv fn, iv q.id, .bool dfr, iv 4, iv 0, iv arg] 138) :: (FB bq q.id q.fn q.r0 o q.r2 q.r3 tq (qv) q.dfr q.cnt q.lvg q.en q.pan) :: (rQ tq q.runs) :: Rs) := by rw [hf_1]; exact Sat.shutF (⟨none, 0, 0⟩ : Sl) hS
      have e1 : m_3 = m.enter fn arg (parId (some q)) dfr := by rw [hm_3, hmA, hm_2]; simp only [MS.enter, MS.tell, hcn, parId]
      have e2 : f_1 = m.frame fn arg dfr := by rw [hf_1]; simp only [MS.frame, hcn]
      replace hS : Sat w0 w ((FB bq q.id q.fn q.r0 o q.r2 q.r3 tq (qv) q.dfr q.cnt q.lvg q.en q.pan) :: (rQ tq q.runs) :: (frm bf f_1 (ptr bq 0)) :: (mch bm pv fuel m_3) :: (SX.blk b6 [iv fn, iv q.id, .bool dfr, iv 4, iv 0, iv arg] 138) :: Rs) := hS.pickN 5 [3, 4, 0, 1, 2] (by decide) rfl
      obtain ⟨f_2, hf_2⟩ : ∃ z_ : FS, z_ = (⟨q.id, q.fn, q.r0, o, q.r2, q.r3, q.runs, q.dfr, q.cnt, q.lvg, q.en, q.pan⟩ : FS) := ⟨_, rfl⟩
      replace hS : Sat w0 w ((frm bq f_2 (qv)) :: (frm bf f_1 (ptr bq 0)) :: (mch bm pv fuel m_3) :: (SX.blk b6 [iv fn, iv q.id, .bool dfr, iv 4, iv 0, iv arg] 138) :: Rs) := by rw [hf_2]; exact Sat.shutF tq hS
      have eq1 : f_2 = { q with r1 := o } := hf_2
      rw [eq1] at hS
      replace hS : Sat w0 w ((parA (ptr bq 0) qv (setR1 (some q) o)) :: (frm bf f_1 (ptr bq 0)) :: (mch bm pv fuel m_3) :: (SX.blk b6 [iv fn, iv q.id, .bool dfr, iv 4, iv 0, iv arg] 138) :: Rs) := Sat.shutPar hS
      replace hS : Sat w0 w ((mch bm pv fuel m_3) :: (frm bf f_1 (ptr bq 0)) :: (parA (ptr bq 0) qv (setR1 (some q) o)) :: Rs) := hS.pickN 4 [2, 1, 0] (by decide) rfl
      replace hS : Sat w0 w ((mch bm pv fuel (m.enter fn arg (parId (some q)) dfr)) :: (frm bf (m.frame fn arg dfr) (ptr bq 0)) :: (parA (ptr bq 0) qv (setR1 (some q) o)) :: Rs) := by rw [e1, e2] at hS; exact hS
      have hme : OkM fuel (m.enter fn arg (parId (some q)) dfr) (x + 1) := OkM.enter hm _ _ _ _
      have hfe := frame_ok (n := P.length) m fn arg (parId (some q)) dfr h0 h1
      have hgp : OkP (m.enter fn arg (parId (some q)) dfr) (some q) := fun q hq => hp q hq
      refine p_op (o_call (Post := bodyPost_ w0 bm bf pv fuel Rs (ptr bq 0) qv (some q) (bodyS fuel (callS P fuel d) (P.getD (m.frame fn arg dfr).fn.toNat []) (some q) (fuel - (m.enter fn arg (parId (some q)) dfr).made).toNat.succ (m.enter fn arg (parId (some q)) dfr) (m.frame fn arg dfr) o 0)) ha (by decide) (iAt (op := (Op.call { callee := (Callee.value (Operand.func 122)), args := #[(Operand.tmp 87), (Operand.tmp 88)], argTypes := #[65, 130] })) (d := some 89) (ty := 0)) rfl Try.func122 (by kernel_rfl) (body_calls P hP d fuel bm pv sbs (IH d rfl) w0 w _ bf _ _ (ptr bq 0) qv (some q) o (x + 1) hS (by simpa [MS.frame] using hme) hfe (by show m.depth + 1 + d = 8; omega) (by show 0 ≤ m.depth + 1; omega) (fun h => hdp h) hgp hPr) (fun v16 w a hp15 ha => ?_) (fun c_ w hp15 => then_p (?_)) (fun _ hp_ => hp_))
      rotate_left
      ·
        obtain ⟨m3, hres, rfl, hS9⟩ := hp15
        exact ⟨ha.defers, m3, by rw [← hR]; exact callS_spent (fn := fn) hres, rfl, hS9⟩
      obtain ⟨m3, f3, o3, hres, rfl, hS⟩ := hp15
      obtain ⟨hok3, hgr3, hof3⟩ := bodyS_ok (x := x + 1) (callS_ok hP fuel d) (body_steps hP h0 h1) _ _ _ _ _ (by simpa [MS.frame] using hme) hfe hres
      generalize hR2 : runsS (callS P fuel d) f3.runs.length m3 f3 (some q) o3 = R2_
      have hRc : R_ = tailS R2_ := by rw [← hR, callS_done (fn := fn) hres, hR2]
      have ha : Has 143 [(0, ptr bm 0), (10, .pointer none), (11, ptr bf 0), (87, ptr bm 0), (88, ptr bf 0)] a := ha.keeps [0, 10, 11, 87, 88] _ rfl
      refine p_end ?_
      refine then_n ?_
      refine wp_seq ?_
      refine wp_block ?_
      replace hS : Sat w0 w ((mch bm pv fuel m3) :: (frm bf f3 (ptr bq 0)) :: (parA (ptr bq 0) qv (setR1 (some q) o3)) :: Rs) := hS
      refine wp_loop_ghost (fun n_ a_ w_ => ∃ (k : Nat) (m1 : MS) (f1 : FS), n_ = (1 + k) ∧ (runsS (callS P fuel d) k m1 f1 (some q) o3 = R2_) ∧ (f1.runs.length = k) ∧ (OkM fuel m1 (2 * f1.runs.length + (x + 1))) ∧ (OkF P.length m1 f1) ∧ (Grew m3 m1) ∧ Has 143 [(0, ptr bm 0), (11, ptr bf 0)] a_ ∧ Sat w0 w_ ((mch bm pv fuel m1) :: (frm bf f1 (ptr bq 0)) :: (parA (ptr bq 0) qv (setR1 (some q) o3)) :: Rs)) _ ⟨_, m3, f3, rfl, hR2, rfl, hok3, hof3, Grew.refl _, ha.keeps [0, 11] _ rfl, hS⟩ ?_
      -- the loop's round
      rintro n_ a w ⟨k, m1, f1, rfl, hR_, hk, hok, hof, hgr, ha, hS⟩
      obtain ⟨s, t, hs, hS⟩ := Sat.openMF hS
      replace hS : Sat w0 w ((MB bm pv fuel m1.made m1.shared m1.depth m1.deepest s.tr s.ow s.ca s.pa s.re s.bp) :: (rE s.tr m1.trace) :: (rI s.ow m1.owners) :: (rC s.ca m1.calls) :: (rP s.pa s.us) :: (starL (unwL s.us)) :: (rV s.re m1.recs) :: (mapA s.bp m1.places) :: (FB bf f1.id f1.fn f1.r0 f1.r1 f1.r2 f1.r3 t (ptr bq 0) f1.dfr f1.cnt f1.lvg f1.en f1.pan) :: (rQ t f1.runs) :: (parA (ptr bq 0) qv (setR1 (some q) o3)) :: Rs) := hS
      have htn : t.n = f1.runs.length := hS.rowL (s := t) (enc := cellsR) 9 cellsR_len (by decide) rfl
      have hrl : f1.runs.length ≤ 1000 := by have := hok.bnd; have := hok.made1; omega
      refine wp_seq ?_
      refine wp_seq ?_
      refine p_beginL [0, 1, 2, 3, 4, 5] ?_
      refine p_run [(0, 90, ptr bf 0), (1, 91, ptr bf 0), (2, 92, ptr bf 6)] ha fun a ha => ?_
      refine p_ld (d := 93) (b := bf) (j := 6) ha (hS.blk 8 rfl) rfl fun a ha => ?_
      refine p_run [(4, 94, iv (t.n : Int)), (5, 95, .bool (decide ((t.n : Int) > 0)))] ha fun a ha => ?_
      refine p_end ?_
      replace ha := ha.as [(0, ptr bm 0), (11, ptr bf 0), (90, ptr bf 0), (91, ptr bf 0), (92, ptr bf 6), (93, .slice t.A t.n t.c), (94, iv (t.n : Int)), (95, .bool (decide ((t.n : Int) > 0)))] rfl
      refine then_n ?_
      by_cases c17 : (t.n : Int) > 0
      ·
        refine c_true ha rfl (decide_eq_true c17) ?_
        refine wp_skip ?_
        refine then_n ?_
        refine wp_block ?_
        refine wp_seq ?_
        have hpos : 0 < f1.runs.length := by rw [← htn]; have := c17; omega
        obtain ⟨z, hz⟩ : ∃ z, f1.runs[t.n - 1]? = some z := ⟨_, List.getElem?_eq_getElem (by rw [htn]; omega)⟩
        have hzf := hof.runs z (List.mem_of_getElem? hz)
        have hlast : f1.runs.getLast? = some z := by rw [List.getLast?_eq_getElem?, ← htn]; exact hz
        obtain ⟨k', hks⟩ : ∃ k', k = k' + 1 := ⟨k - 1, by omega⟩
        have hdl : f1.runs.dropLast = f1.runs.take (t.n - 1) := by rw [List.dropLast_eq_take, htn]
        refine d_start 13 14 hS fun w hS => ?_
        refine d_run (k := 11) [(0, 96, ptr bf 0), (1, 97, ptr bf 0), (2, 98, ptr bf 6)] ha (.inr hS) (pk_then (pk_in (pk_then (pk_in (pk_then (pk_body)))))) fun a ha => ?_
        refine d_ld 3 (d := 99) (b := bf) (j := 6) ha hS (pk_then (pk_in (pk_then (pk_in (pk_then (pk_body)))))) (fun _ hw => hw.blk 8 rfl) rfl fun a ha => ?_
        refine d_run (k := 7) [(4, 100, ptr bf 0), (5, 101, ptr bf 0), (6, 102, ptr bf 6)] ha (.inr hS) (pk_then (pk_in (pk_then (pk_in (pk_then (pk_body)))))) fun a ha => ?_
        refine d_ld 7 (d := 103) (b := bf) (j := 6) ha hS (pk_then (pk_in (pk_then (pk_in (pk_then (pk_body)))))) (fun _ hw => hw.blk 8 rfl) rfl fun a ha => ?_
        refine d_run (k := 5) [(8, 104, iv (t.n : Int))] ha (.inr hS) (pk_then (pk_in (pk_then (pk_in (pk_then (pk_body)))))) fun a ha => ?_
        refine d_pure (i := 9) (v := iv ((t.n : Int) - 1)) ha (by decide) ((v_pure (v := .int .i64 (IntKind.i64.wrap ((t.n : Int) - 1))) ha (iAt (op := (Op.binOp BinOp.sub 3 (Operand.tmp 104) (Operand.const (Value.int IntKind.i64 1)) 3)) (d := some 105) (ty := 3)) (by kernel_rfl) (fun _ => by kernel_rfl)).as (by rw [wrap_i64 (by omega) (by omega)])) (.inr hS) (by kernel_rfl) (by kernel_rfl) (pk_then (pk_in (pk_then (pk_in (pk_then (pk_body)))))) fun a ha => ?_
        refine d_pure (i := 10) (v := .pointer (some ⟨bk t, (t.n - 1) * 2, none⟩)) ha (by decide) (v_indexO (s := t) (el := 171) (sz := 2) (j := (t.n - 1)) ha (iAt (op := (Op.indexAddr 132 (Operand.tmp 99) (Operand.tmp 105))) (d := some 106) (ty := 0)) rfl rfl (by kernel_rfl) (by kernel_rfl) (hS.rowA (s := t) 9 rfl (by have := (List.getElem?_eq_some_iff.1 hz).1; rw [encR_length]; omega)) ((by omega)) (by have h9 := hS.rowL (s := t) (enc := cellsR) 9 cellsR_len (by decide) rfl; have := (List.getElem?_eq_some_iff.1 hz).1; omega)) (.inr hS) (by kernel_rfl) (by kernel_rfl) (pk_then (pk_in (pk_then (pk_in (pk_then (pk_body)))))) fun a ha => ?_
        refine d_val (i := 11) (v := .agg #[iv z.1, iv z.2]) ha (by decide) (v_loadL (v := .agg #[iv z.1, iv z.2]) ha (iAt (op := (Op.load 171 (Operand.tmp 106))) (d := some 107) (ty := 171)) rfl (fun w' hw => run_loadVar_agg (vs := [iv z.1, iv z.2]) (by kernel_rfl) (fun i u hu => by match i, hu with | 0, hu => rw [add0]; rw [← Option.some.inj hu]; exact (((hw.rdC (s := t) 9 rfl)).cells _ _ ((flat_get (enc := cellsR) (o := 0) cellsR_len hz (by decide)).trans rfl)) | 1, hu => rw [add0]; rw [← Option.some.inj hu]; exact (((hw.rdC (s := t) 9 rfl)).cells _ _ ((flat_get (enc := cellsR) (o := 1) cellsR_len hz (by decide)).trans rfl)) | n + 2, hu => simp at hu))) hS (by kernel_rfl) (by kernel_rfl) (pk_then (pk_in (pk_then (pk_in (pk_then (pk_body)))))) fun a ha => ?_
        refine d_one (i := 12) (by kernel_rfl) (o_new (cs := [iv 0, iv 0]) (T := 171) (fun b => .pointer (some ⟨b, 0, none⟩)) ha (by decide) (iAt (op := (Op.alloc 171)) (d := some 14) (ty := 0)) (by kernel_rfl) hS (fun _ => by kernel_rfl) fun b18 w a hb19 hS ha => ?_)
        refine ⟨.inr (Sat.rest [_] hS), ?_⟩
        refine d_one (i := 13) (by kernel_rfl) (o_storeAgg 0 ha (iAt (op := (Op.store 171 (Operand.tmp 14) (Operand.tmp 107))) (ty := 0)) rfl rfl rfl (by kernel_rfl) hS rfl (Nat.le_of_ble_eq_true rfl) rfl fun w a hS ha => ?_)
        refine ⟨.inl (by kernel_rfl), ?_⟩
        refine d_end (by kernel_rfl) ?_ _
        refine then_n ?_
        refine wp_seq ?_
        refine d_start 14 15 hS fun w hS => ?_
        refine d_run (k := 11) [(0, 108, ptr bf 0), (1, 109, ptr bf 0), (2, 110, ptr bf 0), (3, 111, ptr bf 6)] ha (.inr hS) (pk_then (pk_in (pk_then (pk_in (pk_then (pk_body)))))) fun a ha => ?_
        refine d_ld 4 (d := 112) (b := bf) (j := 6) ha hS (pk_then (pk_in (pk_then (pk_in (pk_then (pk_body)))))) (fun _ hw => hw.blk 9 rfl) rfl fun a ha => ?_
        refine d_run (k := 7) [(5, 113, ptr bf 0), (6, 114, ptr bf 0), (7, 115, ptr bf 6)] ha (.inr hS) (pk_then (pk_in (pk_then (pk_in (pk_then (pk_body)))))) fun a ha => ?_
        refine d_ld 8 (d := 116) (b := bf) (j := 6) ha hS (pk_then (pk_in (pk_then (pk_in (pk_then (pk_body)))))) (fun _ hw => hw.blk 9 rfl) rfl fun a ha => ?_
        refine d_run (k := 5) [(9, 117, iv (t.n : Int))] ha (.inr hS) (pk_then (pk_in (pk_then (pk_in (pk_then (pk_body)))))) fun a ha => ?_
        refine d_pure (i := 10) (v := iv ((t.n : Int) - 1)) ha (by decide) ((v_pure (v := .int .i64 (IntKind.i64.wrap ((t.n : Int) - 1))) ha (iAt (op := (Op.binOp BinOp.sub 3 (Operand.tmp 117) (Operand.const (Value.int IntKind.i64 1)) 3)) (d := some 118) (ty := 3)) (by kernel_rfl) (fun _ => by kernel_rfl)).as (by rw [wrap_i64 (by omega) (by omega)])) (.inr hS) (by kernel_rfl) (by kernel_rfl) (pk_then (pk_in (pk_then (pk_in (pk_then (pk_body)))))) fun a ha => ?_
        refine d_pure (i := 11) (v := .slice t.A (t.n - 1) t.c) ha (by decide) (v_takeZ (el := 171) (j := t.n - 1) ha (iAt (op := (Op.slice 132 (Operand.tmp 112) none (some (Operand.tmp 118)) none)) (d := some 119) (ty := 132)) rfl rfl (by kernel_rfl) (by kernel_rfl) (by omega) (Nat.sub_le _ _) (row_cap hS 10 rfl)) (.inr hS) (by kernel_rfl) (by kernel_rfl) (pk_then (pk_in (pk_then (pk_in (pk_then (pk_body)))))) fun a ha => ?_
        refine d_run (k := 1) [(12, 120, ptr bf 0), (13, 121, ptr bf 6)] ha (.inr hS) (pk_then (pk_in (pk_then (pk_in (pk_then (pk_body)))))) fun a ha => ?_
        replace hS : Sat w0 w ((SX.blk b18 [iv z.1, iv z.2] 171) :: (MB bm pv fuel m1.made m1.shared m1.depth m1.deepest s.tr s.ow s.ca s.pa s.re s.bp) :: (rE s.tr m1.trace) :: (rI s.ow m1.owners) :: (rC s.ca m1.calls) :: (rP s.pa s.us) :: (starL (unwL s.us)) :: (rV s.re m1.recs) :: (mapA s.bp m1.places) :: (FB bf f1.id f1.fn f1.r0 f1.r1 f1.r2 f1.r3 t (ptr bq 0) f1.dfr f1.cnt f1.lvg f1.en f1.pan) :: (SX.row (.slice t.A (t.n - 1) t.c) 171 2 (encR (f1.runs.take (t.n - 1)))) :: (parA (ptr bq 0) qv (setR1 (some q) o3)) :: Rs) := by have hh := Sat.rowTake hS 10 rfl (t.n - 1) (Nat.sub_le _ _); rw [show (encR f1.runs).take ((t.n - 1) * 2) = encR (f1.runs.take (t.n - 1)) from flat_take cellsR_len _ _] at hh; exact hh
        refine d_one (i := 14) (by kernel_rfl) (o_st bf 6 (.slice t.A (t.n - 1) t.c) 9 ha hS rfl rfl fun w a hS ha => ?_)
        refine ⟨.inl (by kernel_rfl), ?_⟩
        refine d_end (by kernel_rfl) ?_ _
        refine then_n ?_
        refine p_beginL [0, 1, 2, 3, 4, 5, 6, 7, 8, 9] ?_
        refine p_run [(0, 122, ptr bm 0), (1, 123, ptr bf 0), (2, 124, ptr bm 0), (3, 125, ptr b18 0)] ha fun a ha => ?_
        refine p_ld (d := 126) (b := b18) (j := 0) ha (hS.blk 0 rfl) rfl fun a ha => ?_
        refine p_run [(5, 127, ptr b18 1)] ha fun a ha => ?_
        refine p_ld (d := 128) (b := b18) (j := 1) ha (hS.blk 0 rfl) rfl fun a ha => ?_
        refine p_run [(7, 129, ptr bf 0)] ha fun a ha => ?_
        replace hS : Sat w0 w ((MB bm pv fuel m1.made m1.shared m1.depth m1.deepest s.tr s.ow s.ca s.pa s.re s.bp) :: (rE s.tr m1.trace) :: (rI s.ow m1.owners) :: (rC s.ca m1.calls) :: (rP s.pa s.us) :: (starL (unwL s.us)) :: (rV s.re m1.recs) :: (mapA s.bp m1.places) :: (SX.blk b18 [iv z.1, iv z.2] 171) :: (SX.blk bf [iv f1.id, iv f1.fn, iv f1.r0, iv f1.r1, iv f1.r2, iv f1.r3, .slice t.A (t.n - 1) t.c, ptr bq 0, .bool f1.dfr, .bool f1.cnt, .bool f1.lvg, iv f1.en, iv f1.pan] 134) :: (SX.row (.slice t.A (t.n - 1) t.c) 171 2 (encR (f1.runs.take (t.n - 1)))) :: (parA (ptr bq 0) qv (setR1 (some q) o3)) :: Rs) := hS.pickN 12 [1, 2, 3, 4, 5, 6, 7, 8, 0, 9, 10, 11] (by decide) rfl
        obtain ⟨m_4, hm_4⟩ : ∃ z_ : MS, z_ = (⟨m1.made, m1.shared, m1.depth, m1.deepest, m1.trace, m1.owners, m1.calls, m1.panics, m1.recs, m1.places⟩ : MS) := ⟨_, rfl⟩
        replace hS : Sat w0 w ((mch bm pv fuel m_4) :: (SX.blk b18 [iv z.1, iv z.2] 171) :: (SX.blk bf [iv f1.id, iv f1.fn, iv f1.r0, iv f1.r1, iv f1.r2, iv f1.r3, .slice t.A (t.n - 1) t.c, ptr bq 0, .bool f1.dfr, .bool f1.cnt, .bool f1.lvg, iv f1.en, iv f1.pan] 134) :: (SX.row (.slice t.A (t.n - 1) t.c) 171 2 (encR (f1.runs.take (t.n - 1)))) :: (parA (ptr bq 0) qv (setR1 (some q) o3)) :: Rs) := by rw [hm_4]; exact Sat.shutM (⟨s.tr, s.ow, s.ca, s.pa, s.re, s.us, s.bp⟩ : MSl) (hs) hS
        replace hS : Sat w0 w ((SX.blk bf [iv f1.id, iv f1.fn, iv f1.r0, iv f1.r1, iv f1.r2, iv f1.r3, .slice t.A (t.n - 1) t.c, ptr bq 0, .bool f1.dfr, .bool f1.cnt, .bool f1.lvg, iv f1.en, iv f1.pan] 134) :: (SX.row (.slice t.A (t.n - 1) t.c) 171 2 (encR (f1.runs.take (t.n - 1)))) :: (mch bm pv fuel m_4) :: (SX.blk b18 [iv z.1, iv z.2] 171) :: (parA (ptr bq 0) qv (setR1 (some q) o3)) :: Rs) := hS.pickN 5 [2, 3, 0, 1, 4] (by decide) rfl
        obtain ⟨f_3, hf_3⟩ : ∃ z_ : FS, z_ = (⟨f1.id, f1.fn, f1.r0, f1.r1, f1.r2, f1.r3, (f1.runs.take (t.n - 1)), f1.dfr, f1.cnt, f1.lvg, f1.en, f1.pan⟩ : FS) := ⟨_, rfl⟩
        replace hS : Sat w0 w ((frm bf f_3 (ptr bq 0)) :: (mch bm pv fuel m_4) :: (SX.blk b18 [iv z.1, iv z.2] 171) :: (parA (ptr bq 0) qv (setR1 (some q) o3)) :: Rs) := by rw [hf_3]; exact Sat.shutF (⟨t.A, (t.n - 1), t.c⟩ : Sl) hS
        have e1 : m_4 = m1 := hm_4
        have e2 : f_3 = ({ f1 with runs := f1.runs.dropLast } : FS) := by rw [hf_3, ← hdl]
        replace hS : Sat w0 w ((frm bf ({ f1 with runs := f1.runs.dropLast } : FS) (ptr bq 0)) :: (mch bm pv fuel m1) :: (SX.blk b18 [iv z.1, iv z.2] 171) :: (parA (ptr bq 0) qv (setR1 (some q) o3)) :: Rs) := by rw [e1, e2] at hS; exact hS
        replace hS : Sat w0 w ((parA (.pointer (some ⟨bf, 0, none⟩)) (ptr bq 0) (setR1 (some ({ f1 with runs := f1.runs.dropLast } : FS)) f1.r1)) :: (mch bm pv fuel m1) :: (SX.blk b18 [iv z.1, iv z.2] 171) :: (parA (ptr bq 0) qv (setR1 (some q) o3)) :: Rs) := Sat.shutPar hS
        replace hS : Sat w0 w ((mch bm pv fuel m1) :: (parA (.pointer (some ⟨bf, 0, none⟩)) (ptr bq 0) (setR1 (some ({ f1 with runs := f1.runs.dropLast } : FS)) f1.r1)) :: (SX.blk b18 [iv z.1, iv z.2] 171) :: (parA (ptr bq 0) qv (setR1 (some q) o3)) :: Rs) := hS.pickN 4 [1, 0, 2, 3] (by decide) rfl
        refine p_op (o_call (Post := callPost w0 bm pv fuel ((SX.blk b18 [iv z.1, iv z.2] 171) :: (parA (ptr bq 0) qv (setR1 (some q) o3)) :: Rs) (.pointer (some ⟨bf, 0, none⟩)) (ptr bq 0) (some ({ f1 with runs := f1.runs.dropLast } : FS)) (callS P fuel d m1 z.1 z.2 (some ({ f1 with runs := f1.runs.dropLast } : FS)) f1.r1 true)) ha (by decide) (iAt (op := (Op.call { callee := (Callee.value (Operand.func 114)), args := #[(Operand.tmp 124), (Operand.tmp 126), (Operand.tmp 128), (Operand.tmp 129), (Operand.const (Value.bool true))], argTypes := #[65, 3, 3, 130, 4] })) (d := some 130) (ty := 130)) rfl Try.func114 (by kernel_rfl) (IH d rfl w0 w _ m1 z.1 z.2 _ _ (some ({ f1 with runs := f1.runs.dropLast } : FS)) f1.r1 true (2 * f1.runs.dropLast.length + (x + 1)) hS (hok.less (by rw [List.length_dropLast]; omega)) (by rw [hgr.depth]; have := hgr3.depth; rw [this]; show m.depth + 1 + d = 8; omega) (by rw [hgr.depth]; have := hgr3.depth; rw [this]; show 0 ≤ m.depth + 1; omega) hzf.1 hzf.2 (fun _ => rfl) (fun q hq => by cases hq; exact hof.pan) (hPr.more [_, _])) (fun v21 w a hp20 ha => ?_) (fun c_ w hp20 => in_p (then_p (in_p (then_p (?_))))) (fun _ hp_ => hp_))
        rotate_left
        ·
          obtain ⟨m2, hres, rfl, hS9⟩ := hp20
          refine ⟨ha.defers, m2, ?_, rfl, ?_⟩
          · have h9 : R2_ = .spent m2 := by rw [← hR_, hks]; simp only [runsS, hlast]; rw [hres]
            rw [hRc, h9]; rfl
          · exact hS9.pickR (l := [_, SX.blk b18 [iv z.1, iv z.2] 171, parA (ptr bq 0) qv (setR1 (some q) o3)]) [0] (by decide) [_] rfl
        obtain ⟨m2, dd, o1, bd, hres, rfl, hS⟩ := hp20
        obtain ⟨bf', hbf, hS⟩ := Sat.openPar (q := { ({ f1 with runs := f1.runs.dropLast } : FS) with r1 := o1 }) (Sat.front (l := [_, _]) hS)
        have hbf2 : bf' = bf := by simpa using hbf.symm
        rw [hbf2] at hS
        have hS := Sat.pickR (l := [frm bf ({ f1 with runs := f1.runs.dropLast, r1 := o1 } : FS) (ptr bq 0), mch bm pv fuel m2, frm bd dd (.pointer (some ⟨bf, 0, none⟩))]) hS [1, 0, 2] (by decide) [mch bm pv fuel m2, frm bf ({ f1 with runs := f1.runs.dropLast, r1 := o1 } : FS) (ptr bq 0), frm bd dd (.pointer (some ⟨bf, 0, none⟩))] rfl
        obtain ⟨hok2, hgr2, hofd⟩ := callS_ok hP fuel d m1 z.1 z.2 (some ({ f1 with runs := f1.runs.dropLast } : FS)) f1.r1 true m2 dd o1 (2 * f1.runs.dropLast.length + (x + 1)) (hok.less (by rw [List.length_dropLast]; omega)) hzf.1 hzf.2 hres
        have hof2 : OkF P.length m2 ({ f1 with runs := f1.runs.dropLast, r1 := o1 } : FS) := by have g := hof.grew hgr2; exact ⟨g.id0, g.id1, g.fn0, g.fn1, g.en, g.pan, fun z hz => g.runs z (List.dropLast_subset _ hz)⟩
        have ha : Has 143 [(0, ptr bm 0), (11, ptr bf 0), (90, ptr bf 0), (91, ptr bf 0), (92, ptr bf 6), (93, .slice t.A t.n t.c), (94, iv (t.n : Int)), (95, .bool (decide ((t.n : Int) > 0))), (96, ptr bf 0), (97, ptr bf 0), (98, ptr bf 6), (99, .slice t.A t.n t.c), (100, ptr bf 0), (101, ptr bf 0), (102, ptr bf 6), (103, .slice t.A t.n t.c), (104, iv (t.n : Int)), (105, iv ((t.n : Int) - 1)), (106, .pointer (some ⟨bk t, (t.n - 1) * 2, none⟩)), (107, .agg #[iv z.1, iv z.2]), (14, ptr b18 0), (108, ptr bf 0), (109, ptr bf 0), (110, ptr bf 0), (111, ptr bf 6), (112, .slice t.A t.n t.c), (113, ptr bf 0), (114, ptr bf 0), (115, ptr bf 6), (116, .slice t.A t.n t.c), (117, iv (t.n : Int)), (118, iv ((t.n : Int) - 1)), (119, .slice t.A (t.n - 1) t.c), (120, ptr bf 0), (121, ptr bf 6), (122, ptr bm 0), (123, ptr bf 0), (124, ptr bm 0), (125, ptr b18 0), (126, iv z.1), (127, ptr b18 1), (128, iv z.2), (129, ptr bf 0), (130, ptr bd 0)] a := ha.keeps [0, 11, 90, 91, 92, 93, 94, 95, 96, 97, 98, 99, 100, 101, 102, 103, 104, 105, 106, 107, 14, 108, 109, 110, 111, 112, 113, 114, 115, 116, 117, 118, 119, 120, 121, 122, 123, 124, 125, 126, 127, 128, 129, 130] _ rfl
        refine p_op (o_ret ha (by decide) (iAt (op := (Op.call { callee := (Callee.value (Operand.func 123)), args := #[(Operand.tmp 122), (Operand.tmp 123), (Operand.tmp 130)], argTypes := #[65, 130, 130] })) (d := some 131) (ty := 0)) rfl Try.func123 (by kernel_rfl) (behind_calls w0 w _ bm bf bd pv fuel m2 ({ f1 with runs := f1.runs.dropLast, r1 := o1 } : FS) dd (ptr bq 0) _ P.length hS hof2 hofd) fun v22 w a hp23 ha => ?_)
        obtain ⟨rfl, hS⟩ := hp23
        refine p_end ?_
        refine in_n ?_
        refine then_n ?_
        replace hS : Sat w0 w ((mch bm pv fuel (behindM m2 ({ f1 with runs := f1.runs.dropLast, r1 := o1 } : FS) dd)) :: (frm bf (behindF ({ f1 with runs := f1.runs.dropLast, r1 := o1 } : FS) dd) (ptr bq 0)) :: (parA (ptr bq 0) qv (setR1 (some q) o3)) :: Rs) := hS.pickN 5 [0, 1, 4] (by decide) rfl
        obtain ⟨hb1, hb2, hb3⟩ := behind_ok hok2 hof2 hofd
        have hbr : (behindF ({ f1 with runs := f1.runs.dropLast, r1 := o1 } : FS) dd).runs = f1.runs.dropLast := by unfold behindF; (repeat' split) <;> rfl
        refine ⟨_, (show 1 + k' < 1 + k by omega), k', behindM m2 ({ f1 with runs := f1.runs.dropLast, r1 := o1 } : FS) dd, behindF ({ f1 with runs := f1.runs.dropLast, r1 := o1 } : FS) dd, rfl, ?_, ?_, ?_, hb3, (hgr.trans hgr2).trans hb2, ha.keeps [0, 11] _ rfl, hS⟩
        · rw [← hR_, hks]; simp only [runsS, hlast]; rw [hres]
        · rw [hbr, List.length_dropLast]; omega
        · rw [hbr]; exact hb1
      ·
        refine c_false ha rfl (decide_eq_false c17) ?_
        refine wp_exit ?_
        refine then_x ?_
        refine then_x ?_
        refine in_x ?_
        refine then_n ?_
        refine wp_seq ?_
        have hk0 : k = 0 := by rw [← hk, ← htn]; have := c17; omega
        refine p_beginL [0, 1, 2] ?_
        refine p_run [(0, 132, ptr bm 0), (1, 133, ptr bf 0)] ha fun a ha => ?_
        replace hS : Sat w0 w ((MB bm pv fuel m1.made m1.shared m1.depth m1.deepest s.tr s.ow s.ca s.pa s.re s.bp) :: (rE s.tr m1.trace) :: (rI s.ow m1.owners) :: (rC s.ca m1.calls) :: (rP s.pa s.us) :: (starL (unwL s.us)) :: (rV s.re m1.recs) :: (mapA s.bp m1.places) :: (FB bf f1.id f1.fn f1.r0 f1.r1 f1.r2 f1.r3 t (ptr bq 0) f1.dfr f1.cnt f1.lvg f1.en f1.pan) :: (rQ t f1.runs) :: (parA (ptr bq 0) qv (setR1 (some q) o3)) :: Rs) := hS
        obtain ⟨m_5, hm_5⟩ : ∃ z_ : MS, z_ = (⟨m1.made, m1.shared, m1.depth, m1.deepest, m1.trace, m1.owners, m1.calls, m1.panics, m1.recs, m1.places⟩ : MS) := ⟨_, rfl⟩
        replace hS : Sat w0 w ((mch bm pv fuel m_5) :: (FB bf f1.id f1.fn f1.r0 f1.r1 f1.r2 f1.r3 t (ptr bq 0) f1.dfr f1.cnt f1.lvg f1.en f1.pan) :: (rQ t f1.runs) :: (parA (ptr bq 0) qv (setR1 (some q) o3)) :: Rs) := by rw [hm_5]; exact Sat.shutM (⟨s.tr, s.ow, s.ca, s.pa, s.re, s.us, s.bp⟩ : MSl) (hs) hS
        replace hS : Sat w0 w ((FB bf f1.id f1.fn f1.r0 f1.r1 f1.r2 f1.r3 t (ptr bq 0) f1.dfr f1.cnt f1.lvg f1.en f1.pan) :: (rQ t f1.runs) :: (mch bm pv fuel m_5) :: (parA (ptr bq 0) qv (setR1 (some q) o3)) :: Rs) := hS.pickN 4 [1, 2, 0, 3] (by decide) rfl
        obtain ⟨f_4, hf_4⟩ : ∃ z_ : FS, z_ = (⟨f1.id, f1.fn, f1.r0, f1.r1, f1.r2, f1.r3, f1.runs, f1.dfr, f1.cnt, f1.lvg, f1.en, f1.pan⟩ : FS) := ⟨_, rfl⟩
        replace hS : Sat w0 w ((frm bf f_4 (ptr bq 0)) :: (mch bm pv fuel m_5) :: (parA (ptr bq 0) qv (setR1 (some q) o3)) :: Rs) := by rw [hf_4]; exact Sat.shutF t hS
        have e1 : m_5 = m1 := hm_5
        have e2 : f_4 = f1 := hf_4
        replace hS : Sat w0 w ((mch bm pv fuel m_5) :: (frm bf f_4 (ptr bq 0)) :: (parA (ptr bq 0) qv (setR1 (some q) o3)) :: Rs) := hS.pickN 3 [1, 0, 2] (by decide) rfl
        replace hS : Sat w0 w ((mch bm pv fuel m1) :: (frm bf f1 (ptr bq 0)) :: (parA (ptr bq 0) qv (setR1 (some q) o3)) :: Rs) := by rw [e1, e2] at hS; exact hS
        have hR3 : R2_ = .done m1 f1 o3 := by rw [← hR_, hk0]; rfl
        refine p_op (o_ret ha (by decide) (iAt (op := (Op.call { callee := (Callee.value (Operand.func 124)), args := #[(Operand.tmp 132), (Operand.tmp 133)], argTypes := #[65, 130] })) (d := some 134) (ty := 0)) rfl Try.func124 (by kernel_rfl) (finish_calls w0 w _ bm bf pv fuel m1 f1 (ptr bq 0) P.length _ hS hok hof) fun v24 w a hp25 ha => ?_)
        obtain ⟨rfl, hS⟩ := hp25
        obtain ⟨mB, hmB⟩ : ∃ z_ : MS, z_ = finishS m1 f1 := ⟨_, rfl⟩
        have hS := hS
        rw [← hmB] at hS
        obtain ⟨sB, hsB, hS⟩ := Sat.openM hS
        replace hS : Sat w0 w ((MB bm pv fuel mB.made mB.shared mB.depth mB.deepest sB.tr sB.ow sB.ca sB.pa sB.re sB.bp) :: (rE sB.tr mB.trace) :: (rI sB.ow mB.owners) :: (rC sB.ca mB.calls) :: (rP sB.pa sB.us) :: (starL (unwL sB.us)) :: (rV sB.re mB.recs) :: (mapA sB.bp mB.places) :: (frm bf f1 (ptr bq 0)) :: (parA (ptr bq 0) qv (setR1 (some q) o3)) :: Rs) := hS
        have hdB : mB.depth = m.depth + 1 := by rw [hmB]; show m1.depth = _; rw [hgr.depth]; exact hgr3.depth
        refine p_end ?_
        refine then_n ?_
        refine wp_seq ?_
        refine p_beginL [0, 1, 2, 3, 4, 5, 6, 7] ?_
        refine p_run [(0, 135, ptr bm 0), (1, 136, ptr bm 0), (2, 137, ptr bm 4)] ha fun a ha => ?_
        refine p_ld (d := 138) (b := bm) (j := 4) ha (hS.blk 0 rfl) rfl fun a ha => ?_
        refine p_val (v := iv (mB.depth - 1)) ha (by decide) ((v_pure (v := .int .i64 (IntKind.i64.wrap (mB.depth - 1))) ha (iAt (op := (Op.binOp BinOp.sub 3 (Operand.tmp 138) (Operand.const (Value.int IntKind.i64 1)) 3)) (d := some 139) (ty := 3)) (by kernel_rfl) (fun _ => by kernel_rfl)).as (by rw [wrap_i64 (by omega) (by omega)])) (fun a ha => ?_)
        refine p_run [(5, 140, ptr bm 0), (6, 141, ptr bm 4)] ha fun a ha => ?_
        refine p_op (o_st bm 4 (iv (mB.depth - 1)) 0 ha hS rfl rfl fun w a hS ha => ?_)
        refine p_end ?_
        replace ha := ha.as [(11, ptr bf 0)] rfl
        refine then_n ?_
        refine wp_seq ?_
        refine p_beginL [0, 1] ?_
        refine p_run [(0, 142, ptr bf 0), (1, 10, ptr bf 0)] ha fun a ha => ?_
        refine p_end ?_
        refine then_n ?_
        refine wp_ret ?_
        replace hS : Sat w0 w ((MB bm pv fuel mB.made mB.shared (mB.depth - 1) mB.deepest sB.tr sB.ow sB.ca sB.pa sB.re sB.bp) :: (rE sB.tr mB.trace) :: (rI sB.ow mB.owners) :: (rC sB.ca mB.calls) :: (rP sB.pa sB.us) :: (starL (unwL sB.us)) :: (rV sB.re mB.recs) :: (mapA sB.bp mB.places) :: (frm bf f1 (ptr bq 0)) :: (parA (ptr bq 0) qv (setR1 (some q) o3)) :: Rs) := hS
        obtain ⟨m_6, hm_6⟩ : ∃ z_ : MS, z_ = (⟨mB.made, mB.shared, (mB.depth - 1), mB.deepest, mB.trace, mB.owners, mB.calls, mB.panics, mB.recs, mB.places⟩ : MS) := ⟨_, rfl⟩
        replace hS : Sat w0 w ((mch bm pv fuel m_6) :: (frm bf f1 (ptr bq 0)) :: (parA (ptr bq 0) qv (setR1 (some q) o3)) :: Rs) := by rw [hm_6]; exact Sat.shutM (⟨sB.tr, sB.ow, sB.ca, sB.pa, sB.re, sB.us, sB.bp⟩ : MSl) (hsB) hS
        replace hS : Sat w0 w ((mch bm pv fuel m_6) :: (frm bf f1 (ptr bq 0)) :: (parA (ptr bq 0) qv (setR1 (some q) o3)) :: Rs) := hS
        refine end_tmp (t := 10) (v := .pointer (some ⟨bf, 0, none⟩)) ha (by kernel_rfl) rfl ?_
        have e9 : m_6 = { finishS m1 f1 with depth := m1.depth - 1 } := by rw [hm_6, hmB]; rfl
        rw [e9] at hS
        exact ⟨_, f1, o3, bf, by rw [hRc, hR3]; rfl, rfl, hS⟩
end SX
end Go.Proofs.Ytdbbafepjgnmeaa
end
section
namespace Go.Proofs.Ytdbbafepjgnmeaa
namespace SX
open Go.RowKit
set_option linter.unusedVariables false
set_option linter.unusedSimpArgs false
theorem call_calls (P : List (List Stp)) (hP : ProgOk P) (fuel : Int) (bm : Nat) (pv : Sl) (sbs : List Sl) : ∀ d, CallC P fuel bm pv sbs d := by
 intro d
 induction d with
 | zero =>
  intro w0 w Rs m fn arg pvl qv p o dfr x hS hm hdep hd0 h0 h1 hdp hp hPr
  cases p with
  | none =>
   have hv : pvl = .pointer none := hS.fact_ 1 rfl
   subst hv
   exact call_none P hP 0 fuel bm pv sbs (fun d h => by omega) w0 w Rs m fn arg qv o dfr x hS hm hdep hd0 h0 h1 hdp hp hPr
  | some q =>
   obtain ⟨bq, hv, h2⟩ := Sat.openPar (q := { q with r1 := o }) (Sat.front (l := [_]) hS)
   subst hv
   exact call_some P hP 0 fuel bm pv sbs (fun d h => by omega) w0 w Rs m fn arg bq q qv o dfr x (Sat.back (l := [_]) h2) hm hdep hd0 h0 h1 hdp hp hPr
 | succ d ih =>
  have ih' : ∀ d', d + 1 = d' + 1 → CallC P fuel bm pv sbs d' := fun d' h => by
   have : d' = d := by omega
   subst this
   exact ih
  intro w0 w Rs m fn arg pvl qv p o dfr x hS hm hdep hd0 h0 h1 hdp hp hPr
  cases p with
  | none =>
   have hv : pvl = .pointer none := hS.fact_ 1 rfl
   subst hv
   exact call_none P hP (d + 1) fuel bm pv sbs ih' w0 w Rs m fn arg qv o dfr x hS hm hdep hd0 h0 h1 hdp hp hPr
  | some q =>
   obtain ⟨bq, hv, h2⟩ := Sat.openPar (q := { q with r1 := o }) (Sat.front (l := [_]) hS)
   subst hv
   exact call_some P hP (d + 1) fuel bm pv sbs ih' w0 w Rs m fn arg bq q qv o dfr x (Sat.back (l := [_]) h2) hm hdep hd0 h0 h1 hdp hp hPr
end SX
end Go.Proofs.Ytdbbafepjgnmeaa
end
section
namespace Go.Proofs.Ytdbbafepjgnmeaa
namespace SX
open Go.RowKit
abbrev mL (pv : Sl) (fuel : Int) (sp : Bool) (sh ma de : Int) (tr se : Sl) : List Value := [.slice pv.A pv.n pv.c, .int .i64 fuel, .bool sp, .int .i64 sh, .int .i64 ma, .int .i64 de, .slice tr.A tr.n tr.c, .slice se.A se.n se.c]
abbrev mG (pv : Sl) (fuel : Int) (sp : Bool) (sh ma de : Int) (tr se : Sl) : Value := .agg #[.slice pv.A pv.n pv.c, .int .i64 fuel, .bool sp, .int .i64 sh, .int .i64 ma, .int .i64 de, .slice tr.A tr.n tr.c, .slice se.A se.n se.c]
abbrev mV (pv : Sl) (fuel : Int) (q : MQ) (tr se : Sl) : Value := mG pv fuel q.spent q.shared q.made q.deep tr se
abbrev cL (f d r0 r1 r2 r3 : Int) (df : Sl) (k v : Int) (lv dfr pg : Bool) (pn : Int) (rc : Bool) (ou : Int) : List Value := [.int .i64 f, .int .i64 d, .int .i64 r0, .int .i64 r1, .int .i64 r2, .int .i64 r3, .slice df.A df.n df.c, .int .i64 k, .int .i64 v, .bool lv, .bool dfr, .bool pg, .int .i64 pn, .bool rc, .int .i64 ou]
abbrev cG (f d r0 r1 r2 r3 : Int) (df : Sl) (k v : Int) (lv dfr pg : Bool) (pn : Int) (rc : Bool) (ou : Int) : Value := .agg #[.int .i64 f, .int .i64 d, .int .i64 r0, .int .i64 r1, .int .i64 r2, .int .i64 r3, .slice df.A df.n df.c, .int .i64 k, .int .i64 v, .bool lv, .bool dfr, .bool pg, .int .i64 pn, .bool rc, .int .i64 ou]
abbrev cV (c : FQ) (df : Sl) : Value := cG c.f c.depth c.r0 c.r1 c.r2 c.r3 df c.kind c.value c.leaving c.deferred c.panicking c.panic c.recovered c.outer
abbrev oG (k v : Int) (tr : Sl) (ma : Int) : Value := .agg #[.int .i64 k, .int .i64 v, .slice tr.A tr.n tr.c, .int .i64 ma]
abbrev rS (s : Sl) (l : List (Int × Int)) : Asn := SX.row (.slice s.A s.n s.c) 153 2 (encR l)
theorem encR_one (l : List (Int × Int)) : (encR l).all Value.oneCell' = true := by
 rw [List.all_eq_true]
 intro v hv
 obtain ⟨x, _, hx⟩ := List.mem_flatMap.1 hv
 simp only [cellsR, List.mem_cons, List.not_mem_nil, or_false] at hx
 rcases hx with rfl | rfl <;> rfl
theorem encR_take (l : List (Int × Int)) (j : Nat) : (encR l).take (j * 2) = encR (l.take j) := flat_take cellsR_len l j
theorem encR_all {l : List (Int × Int)} {j : Nat} (h : j = l.length) : (encR l).take (j * 2) = encR l := by rw [encR_take, h, List.take_length]
def CallCQ (P : List (List Stp)) (fuel : Int) (pv : Sl) (sbs : List Sl) (d : Nat) : Prop :=
  ∀ (w0 w : World) (Rs : List Asn) (m : MQ) (c : FQ) (tr se df : Sl) (x : Nat), Sat w0 w (rE tr m.trace :: rS se m.seen :: rS df c.defers :: Rs) → OkQ fuel m (x + 2) → OkC P.length c → c.defers = [] → c.depth + d = 9 → 1 ≤ c.depth → Keeps w0 Rs (fun w => RdProg w pv sbs P) →
    Calls Try.prog 95 #[mV pv fuel m tr se, cV c df] w (Ret fun r w' => ∃ (q : MQ × FQ) (tr' se' df' : Sl), q = qCall P fuel d m c ∧ r = .tuple #[mV pv fuel q.1 tr' se', cV q.2 df'] ∧ Sat w0 w' (rE tr' q.1.trace :: rS se' q.1.seen :: rS df' q.2.defers :: Rs))
end SX
end Go.Proofs.Ytdbbafepjgnmeaa
end
