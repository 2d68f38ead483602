/- What the claim FnExactErrorsOfRun rests on, part 20 of 22; the last part proves it: for every input the law answers true, and its arguments read behind the call as before it. No condition. -/
import Derived.Lib.RowBridge
import Derived.Test.YtcbijhgepdedpaaQErrorsOfRun2
import Derived.Test.YtcbijhgepdedpaaQErrorsOfRun18
import Derived.Test.YtcbijhgepdedpaaQErrorsOfRun19
set_option linter.unusedSimpArgs false
set_option linter.unusedVariables false
set_option maxRecDepth 20000
set_option maxHeartbeats 1000000
namespace Go.Proofs.Ytcbijhgepdedpaa.G
open Go.RowKit Go.Sort Go.Proofs.Ytcbijhgepdedpaa.SX Go.Proofs.YtcbijhgepdedpaaW.PrintWords Go.Proofs.YtcbijhgepdedpaaW.PrintLast Go.Proofs.YtcbijhgepdedpaaW.PrintMore
theorem holds_int {w : World} {g : Nat} {cur : Array Value} {e : TypeId} {l : List Int} (hb : w.heap[g]? = some (.cells cur e (0, 0))) (ht : cur.toList.take l.length = SX.encI l) : Holds (Value.int .i64) w g 0 l.toArray := by
 intro j hj
 refine ⟨?_, by simp [World.frozen?, hb]⟩
 have hj2 : j < l.length := by simpa using hj
 have h1 : (cur.toList.take l.length)[j]? = (SX.encI l)[j]? := by rw [ht]
 rw [List.getElem?_take_of_lt hj2] at h1
 simp only [World.cell?, hb, Nat.zero_add]
 simp only [Option.isSome_none, Bool.false_eq_true, if_false]
 rw [← Array.getElem?_toList, h1]
 simp [SX.encI, hj2]
theorem heap_int {w : World} {g n : Nat} {cur : Array Value} {e : TypeId} {fr : Nat × Nat} (F : Array Int) (hb : w.heap[g]? = some (.cells cur e fr)) :
  (putRow (Value.int .i64) (Sort.ahead w n) g 0 F).heap[g]? = some (.cells (putCells (Value.int .i64) 0 F cur) e fr) := by
 simp [putRow, mapBlock, Sort.ahead, Array.getElem?_modify, hb, onCells]
theorem grownBy_int {w : World} {g n : Nat} (F : Array Int) : w.grownBy (putRow (Value.int .i64) (Sort.ahead w n) g 0 F) (some g) := by
 refine ⟨rfl, rfl, rfl, by simp [putRow, mapBlock, Sort.ahead], fun k hk hne => ?_⟩
 have : g ≠ k := fun e => hne (by rw [e])
 simp [putRow, mapBlock, Sort.ahead, Array.getElem?_modify, this]
theorem take_int (cur : Array Value) (F : List Int) (h : F.length ≤ cur.size) : (putCells (Value.int .i64) 0 F.toArray cur).toList.take F.length = SX.encI F := by
  apply List.ext_getElem?
  intro j
  by_cases hj : j < F.length
  · rw [List.getElem?_take_of_lt hj, Array.getElem?_toList]
    simp [putCells, SX.encI, hj, show j < cur.size by omega]
  · rw [List.getElem?_take_eq_none (by omega), List.getElem?_eq_none (by rw [encI_length]; omega)]
theorem rev_sat {w0 w : World} {Rs : List Asn} {s : Sl} {l : List Int} (hS : Sat w0 w (SX.row (.slice s.A s.n s.c) 3 1 (SX.encI l) :: Rs)) (hl : l.length ≤ 1000000) :
    Calls Try.prog 34 #[.slice s.A s.n s.c] w (Ret fun r w' => r = .tuple #[] ∧ Sat w0 w' (SX.row (.slice s.A s.n s.c) 3 1 (SX.encI l.reverse) :: Rs)) := by
  obtain ⟨n, hx, hrow⟩ := hS.row 0 rfl
  rw [encI_length] at hx
  obtain rfl : l.length = n := by omega
  rcases hrow with ⟨hv, hl0⟩ | ⟨g, cap, cur, hv, _, hg, hn, hcap, hsz, htk⟩
  · have h0 : l = [] := List.eq_nil_of_length_eq_zero hl0
    subst h0;have hc := Any.slices_Reverse_int_empty rev112 none 0 w;have hv2 : Value.slice s.A s.n s.c = .slice none 0 0 := hv;rw [hv2];refine Calls.mono hc fun e w' h => ?_;obtain ⟨rfl, rfl⟩ := h;refine ⟨rfl, ?_⟩;rw [← hv2]; exact hS
  · have hv2 : Value.slice s.A s.n s.c = .slice (some ⟨g, 0, none⟩) l.length cap := hv
    have htk1 : cur.toList.take l.length = SX.encI l := by simpa using htk
    have hc := Any.slices_Reverse_int rev112 g 0 cap l w (holds_int hg htk1) (by omega);rw [hv2];refine Calls.mono hc fun e w' h => ?_;obtain ⟨rfl, q, rfl⟩ := h;refine ⟨rfl, ?_⟩;have hle : l.length ≤ cur.size := by rw [hsz]; omega
    have hgr := grownBy_int (w := w) (g := g) (n := q) l.reverse.toArray;have hhp := heap_int (n := q) l.reverse.toArray hg;have htk2 := take_int cur l.reverse (by rw [List.length_reverse]; exact hle);rw [← hv2];refine hS.upd (i := 0) rfl _ hgr.1 hgr.2 hgr.3 hgr.4 fun F hF => ⟨F, ⟨hF.1, l.length, by rw [encI_length, List.length_reverse]; omega, .inr ⟨g, cap, _, hv2, Nat.zero_le _, hhp, hn, hcap, by simp [putCells, hsz], by rw [Nat.mul_one]; rw [List.length_reverse] at htk2; exact htk2⟩⟩, fun _ hb => .inl hb, fun k hk hF' => hgr.5 k hk fun e => hF' ((hF.1 k).2 (by rw [hv2]; simp only [Value.ownBlock, Option.map_some]; exact Eq.symm e))⟩
end Go.Proofs.Ytcbijhgepdedpaa.G
namespace Go.Proofs.Ytcbijhgepdedpaa.G
open Go.RowKit Go.Proofs.Ytcbijhgepdedpaa.SX Go.Proofs.YtcbijhgepdedpaaW.PrintWords Go.Proofs.YtcbijhgepdedpaaW.PrintLast Go.Proofs.YtcbijhgepdedpaaW.PrintMore
theorem code54 : Try.f54.body = some (Code.seq (cr Try.f54 0 false) (Code.seq (cr Try.f54 1 false) Code.ret)) := by kernel_rfl
theorem pclo_sat {w0 w : World} {Rs : List Asn} {x : PanS} (hS : Sat w0 w Rs) :
  Calls Try.prog 54 #[.agg #[iv x.1.call, iv x.1.fn, iv x.1.value, iv x.1.depth, iv x.1.fate, iv x.1.by_, iv x.1.last, .bool x.1.again, .slice x.2.A x.2.n x.2.c]] w (Ret fun r w' => r = .bool (decide (x.1.fate = 3)) ∧ Sat w0 w' Rs) := by
 refine enter (n := 6) Try.func54 code54 (by kernel_rfl) (Nat.le_of_ble_eq_true rfl) (fun a ha => ?_)
 replace ha : Has 6 [(0, .agg #[iv x.1.call, iv x.1.fn, iv x.1.value, iv x.1.depth, iv x.1.fate, iv x.1.by_, iv x.1.last, .bool x.1.again, .slice x.2.A x.2.n x.2.c])] a := ha
 refine wp_seq (jX [0, 1] (jZ (qJ 1 [iv x.1.call, iv x.1.fn, iv x.1.value, iv x.1.depth, iv x.1.fate, iv x.1.by_, iv x.1.last, .bool x.1.again, .slice x.2.A x.2.n x.2.c] 113 (ptr · 0) ha hS fun b1 w a hb2 hS ha => ?_)))
 refine jQ [(1, 2, .bool false)] ha fun a ha => ?_
 refine jY (jJ (wp_seq (jX [0, 1, 2, 3] (jQ [(0, 3, ptr b1 4)] ha fun a ha => ?_))))
 refine jU (d := 4) (b := b1) (j := 4) ha (hS.blk 0 rfl) rfl fun a ha => ?_
 refine jQ [(2, 5, .bool (decide (x.1.fate = 3))), (3, 2, .bool (decide (x.1.fate = 3)))] ha fun a ha => ?_
 refine jY (jJ (wp_ret (qK ha (by kernel_rfl) (yJ (t := 2) ha rfl) ?_)))
 exact ⟨rfl, Sat.rest [_] hS⟩
theorem code53 : Try.f53.body = some (Code.seq (cr Try.f53 0 false) (Code.seq (Code.seq (cr Try.f53 1 false) (Code.block 0 (Code.loop (Code.seq (cr Try.f53 2 false) (Code.seq (Code.cond (Operand.tmp 9) Code.skip (Code.exit 0)) (Code.seq (Code.block 1 (Code.seq (cr Try.f53 3 false) (Code.seq (cr Try.f53 4 false) (Code.cond (Operand.tmp 16) (Code.seq (cr Try.f53 5 false) Code.ret) Code.skip)))) (cr Try.f53 6 false))))))) (Code.seq (cr Try.f53 7 false) Code.ret))) := by kernel_rfl
theorem pix_sat {w0 w : World} {Rs : List Asn} {sp : Sl} {us : List PanS} {k0 : Nat} {x0 : PanS} (hS : Sat w0 w (SX.row (.slice sp.A sp.n sp.c) 113 9 (encP us) :: Rs)) (hl : us.length ≤ 1000) (hk : us[k0]? = some x0) (hf0 : x0.1.fate = 3) (hno : ∀ (j : Nat) y, us[j]? = some y → y.1.fate = 3 → j = k0) :
  Calls Try.prog 53 #[.slice sp.A sp.n sp.c, (.func (.func 54) #[] #[])] w (Ret fun r w' => r = .int .i64 (k0 : Int) ∧ Sat w0 w' (SX.row (.slice sp.A sp.n sp.c) 113 9 (encP us) :: Rs)) := by
 have hspn := hS.rowL (s := sp) (enc := cellsP) 0 xK (by decide) rfl
 have hkl := (List.getElem?_eq_some_iff.1 hk).1
 refine enter (n := 19) Try.func53 code53 (by kernel_rfl) (Nat.le_of_ble_eq_true rfl) (fun a ha => ?_)
 replace ha : Has 19 [(0, .slice sp.A sp.n sp.c), (1, (.func (.func 54) #[] #[]))] a := ha
 refine wp_seq (jX [0] (jQ [(0, 4, iv 0)] ha fun a ha => ?_))
 refine jY (jJ (wp_seq (wp_seq (jX [0, 1, 2] (jQ [(0, 6, .slice sp.A sp.n sp.c), (1, 7, iv (sp.n : Int)), (2, 8, iv 0)] ha fun a ha => ?_)))))
 refine jY (jJ (wp_block ?_))
 replace hS : Sat w0 w ((rP sp us) :: Rs) := hS
 refine wp_loop_ghost (fun n_ a_ w_ => ∃ (i : Nat), n_ = us.length - i ∧ (i ≤ k0) ∧ Has 19 [(0, .slice sp.A sp.n sp.c), (1, (.func (.func 54) #[] #[])), (4, iv 0), (7, iv (sp.n : Int)), (8, iv (i : Int))] a_ ∧ Sat w0 w_ ((rP sp us) :: Rs)) _ ⟨0, rfl, Nat.zero_le _, ha.keeps [0, 1, 4, 7, 8] _ rfl, hS⟩ ?_
 rintro n_ a w ⟨i, rfl, hi, ha, hS⟩
 have hil : i < us.length := by omega
 obtain ⟨x, hx⟩ : ∃ x, us[i]? = some x := ⟨_, List.getElem?_eq_getElem hil⟩
 refine wp_seq (jX [0] (jQ [(0, 9, .bool (decide ((i : Int) < (sp.n : Int))))] ha fun a ha => ?_))
 refine jY (jJ (wp_seq ?_))
 by_cases c1 : (i : Int) < (sp.n : Int)
 ·
  refine jG ha rfl (decide_eq_true c1) ?_
  refine wp_skip (jJ (wp_seq (wp_block (wp_seq (jX [0, 1] (jQ [(0, 10, iv (i : Int)), (1, 5, iv (i : Int))] ha fun a ha => ?_))))))
  refine jY (jJ (wp_seq (jX [0, 1, 2, 3, 4, 5] (jQ [(0, 11, (.func (.func 54) #[] #[])), (1, 12, .slice sp.A sp.n sp.c), (2, 13, iv (i : Int))] ha fun a ha => ?_))))
  refine xU (.pointer (some ⟨bk sp, i * 9, none⟩)) ha (xW (s := sp) (el := 113) (sz := 9) (j := i) ha (yU (t := 87) (x := 12) (y := 13) (d := 14)) rfl rfl (by kernel_rfl) (by kernel_rfl) (hS.rowA (s := sp) 0 rfl (by have := (List.getElem?_eq_some_iff.1 hx).1; rw [encP_length]; omega)) (rfl) (by have h9 := hS.rowL (s := sp) (enc := cellsP) 0 xK (by decide) rfl; have := (List.getElem?_eq_some_iff.1 hx).1; omega)) fun a ha => ?_
  refine xU (.agg #[iv x.1.call, iv x.1.fn, iv x.1.value, iv x.1.depth, iv x.1.fate, iv x.1.by_, iv x.1.last, .bool x.1.again, .slice x.2.A x.2.n x.2.c]) ha (v_loadL ha (zV (t := 113) (x := 14) (d := 15) (ty := 113)) rfl (fun w' hw => by rw [hw]; exact run_loadVar_agg (vs := [iv x.1.call, iv x.1.fn, iv x.1.value, iv x.1.depth, iv x.1.fate, iv x.1.by_, iv x.1.last, .bool x.1.again, .slice x.2.A x.2.n x.2.c]) (by kernel_rfl) (fun i u hu => by match i, hu with | 0, hu => rw [add0]; rw [← Option.some.inj hu]; exact ((hS.rdC (s := sp) 0 rfl).cells _ _ ((flat_get (enc := cellsP) (o := 0) xK hx (by decide)).trans rfl)) | 1, hu => rw [add0]; rw [← Option.some.inj hu]; exact ((hS.rdC (s := sp) 0 rfl).cells _ _ ((flat_get (enc := cellsP) (o := 1) xK hx (by decide)).trans rfl)) | 2, hu => rw [add0]; rw [← Option.some.inj hu]; exact ((hS.rdC (s := sp) 0 rfl).cells _ _ ((flat_get (enc := cellsP) (o := 2) xK hx (by decide)).trans rfl)) | 3, hu => rw [add0]; rw [← Option.some.inj hu]; exact ((hS.rdC (s := sp) 0 rfl).cells _ _ ((flat_get (enc := cellsP) (o := 3) xK hx (by decide)).trans rfl)) | 4, hu => rw [add0]; rw [← Option.some.inj hu]; exact ((hS.rdC (s := sp) 0 rfl).cells _ _ ((flat_get (enc := cellsP) (o := 4) xK hx (by decide)).trans rfl)) | 5, hu => rw [add0]; rw [← Option.some.inj hu]; exact ((hS.rdC (s := sp) 0 rfl).cells _ _ ((flat_get (enc := cellsP) (o := 5) xK hx (by decide)).trans rfl)) | 6, hu => rw [add0]; rw [← Option.some.inj hu]; exact ((hS.rdC (s := sp) 0 rfl).cells _ _ ((flat_get (enc := cellsP) (o := 6) xK hx (by decide)).trans rfl)) | 7, hu => rw [add0]; rw [← Option.some.inj hu]; exact ((hS.rdC (s := sp) 0 rfl).cells _ _ ((flat_get (enc := cellsP) (o := 7) xK hx (by decide)).trans rfl)) | 8, hu => rw [add0]; rw [← Option.some.inj hu]; exact ((hS.rdC (s := sp) 0 rfl).cells _ _ ((flat_get (enc := cellsP) (o := 8) xK hx (by decide)).trans rfl)) | n + 9, hu => simp at hu))) fun a ha => ?_
  refine jZ (o_retF (t := 11) (f := 54) (cap := []) ha (by decide) (zW (op := (Op.call { callee := (Callee.value (Operand.tmp 11)), args := #[(Operand.tmp 15)], argTypes := #[113] })) (d := some 16) (ty := 4)) rfl rfl Try.func54 (by kernel_rfl) (pclo_sat (x := x) hS) fun v2 w a hp3 ha => ?_)
  obtain ⟨rfl, hS⟩ := hp3
  refine jY (jJ ?_)
  by_cases c4 : x.1.fate = 3
  ·
   refine jG ha rfl (decide_eq_true c4) ?_;refine wp_seq (jX [0, 1] (jQ [(0, 17, iv (i : Int)), (1, 4, iv (i : Int))] ha fun a ha => ?_));refine jY (jJ (wp_ret (in_r (xQ (xQ (in_r (xQ (qK ha (by kernel_rfl) (yJ (t := 4) ha rfl) ?_))))))));have hik := hno i x hx c4;subst hik;exact ⟨rfl, hS⟩
  refine jV ha rfl (decide_eq_false c4) ?_
  refine wp_skip (in_n (jJ (jX [0, 1] (zJ 18 ((i : Int) + 1) ha fun a ha => ?_))))
  refine jQ [(1, 8, iv ((i : Int) + 1))] ha fun a ha => ?_
  refine jY (jJ ?_)
  replace hS : Sat w0 w ((rP sp us) :: Rs) := hS
  have hik : i ≠ k0 := by intro h9; subst h9; rw [hx] at hk; obtain rfl := Option.some.inj hk; exact c4 hf0
  exact ⟨_, by omega, i + 1, rfl, by omega, ha.keeps [0, 1, 4, 7, 8] _ rfl, hS⟩
 exfalso; omega
theorem code33 : Try.f33.body = some (Code.seq (cr Try.f33 0 false) (Code.seq (cr Try.f33 1 false) (Code.seq (Code.seq (cr Try.f33 2 false) (Code.cond (Operand.tmp 31) (Code.seq (cr Try.f33 3 false) Code.ret) Code.skip)) (Code.seq (cr Try.f33 4 false) (Code.seq (Code.seq (cr Try.f33 5 false) (Code.block 0 (Code.loop (Code.seq (Code.seq (cr Try.f33 6 false) (Code.cond (Operand.tmp 39) Code.skip (Code.exit 0))) (Code.seq (Code.block 1 (cr Try.f33 8 false)) (cr Try.f33 7 false)))))) (Code.seq (cr Try.f33 9 false) (Code.seq (cr Try.f33 10 false) Code.ret))))))) := by kernel_rfl
theorem impl_Pch_sat {w0 w : World} {Rs : List Asn} {s : Sl} {l : List (List ST)} {f arg fuel : Int} (hS : Sat w0 w Rs) (hr : RdP w0 s l) (hf : Fits l) :
  Calls Try.prog 33 #[.agg #[.slice s.A s.n s.c], iv f, iv arg, iv fuel] w (Ret fun r w' => ∃ o : Sl, r = .tuple #[.slice o.A o.n o.c, .bool (pchP l f arg fuel).2] ∧ Sat w0 w' (SX.row (.slice o.A o.n o.c) 3 1 (SX.encI (pchP l f arg fuel).1) :: Rs)) := by
 refine enter (n := 62) Try.func33 code33 (by kernel_rfl) (Nat.le_of_ble_eq_true rfl) (fun a ha => ?_)
 replace ha : Has 62 [(0, .agg #[.slice s.A s.n s.c]), (1, iv f), (2, iv arg), (3, iv fuel)] a := ha
 refine wp_seq (jX [0, 1, 2] (jZ (qJ 4 [.slice s.A s.n s.c] 40 (ptr · 0) ha hS fun b1 w a hb2 hS ha => ?_)))
 refine jQ [(1, 8, .slice none 0 0), (2, 9, .bool false)] ha fun a ha => ?_
 refine jY (jJ (wp_seq (jX [0, 1, 2, 3, 4, 5, 6, 7, 8, 9] (xG 15 ha (hS.blk 0 rfl) fun a ha => ?_))))
 refine jQ [(1, 16, iv f), (2, 17, iv arg), (3, 18, iv fuel)] ha fun a ha => ?_
 rcases Bool.eq_false_or_eq_true (askB l f arg fuel) with c3 | c3
 ·
  refine jZ (qG 19 (vs := [.agg #[.slice s.A s.n s.c], iv f, iv arg, iv fuel]) ha (ran_sat hS (hr.sat hS) c3) fun v4 w a hp5 ha => ?_)
  obtain ⟨bm1, rfl, hS⟩ := hp5
  obtain ⟨ms1, hms1, hS⟩ := Sat.openMO hS
  replace hS : Sat w0 w ((MO bm1 s fuel ((rn l f arg fuel).m.made) ((rn l f arg fuel).m.shared) ((rn l f arg fuel).m.depth) ((rn l f arg fuel).m.deepest) ms1.tr ms1.ow ms1.ca ms1.pa ms1.re ms1.bp ((rn l f arg fuel).k) ((rn l f arg fuel).v)) :: (rE ms1.tr ((rn l f arg fuel).m.trace)) :: (rI ms1.ow ((rn l f arg fuel).m.owners)) :: (rC ms1.ca ((rn l f arg fuel).m.calls)) :: (rP ms1.pa ms1.us) :: (jW (yQ ms1.us)) :: (rV ms1.re ((rn l f arg fuel).m.recs)) :: (yY ms1.bp (rn l f arg fuel).m.places) :: (SX.blk b1 [.slice s.A s.n s.c] 40) :: Rs) := hS
  refine jQ [(5, 14, .tuple #[ptr bm1 0, .bool true]), (6, 20, ptr bm1 0), (7, 21, .bool true), (8, 10, ptr bm1 0), (9, 11, .bool true)] ha fun a ha => ?_
  refine jY (jJ (wp_seq (wp_seq (jX [0, 1, 2, 3, 4, 5, 6, 7, 8, 9] (jQ [(0, 22, .bool true), (1, 23, .bool false), (2, 24, .bool false), (3, 25, ptr bm1 0), (4, 26, ptr bm1 0), (5, 27, ptr bm1 12), (6, 28, ptr bm1 12)] ha fun a ha => ?_)))))
  refine jU (d := 29) (b := bm1) (j := 12) ha (hS.blk 0 rfl) rfl fun a ha => ?_
  refine jQ [(8, 30, .bool (!(decide (((rn l f arg fuel).k) = 2)))), (9, 31, .bool (!(decide (((rn l f arg fuel).k) = 2))))] ha fun a ha => ?_
  refine jY ?_
  replace ha := ha.as [(8, .slice none 0 0), (9, .bool false), (10, ptr bm1 0), (31, .bool (!(decide (((rn l f arg fuel).k) = 2))))] rfl
  refine jJ ?_
  by_cases c6 : ((rn l f arg fuel).k) = 2
  ·
   refine jV ha rfl (zX (decide_eq_true c6)) ?_;refine wp_skip (jJ (wp_seq (jX [0, 1] (jZ (qJ 32 [] 3 (fun b => .slice (some ⟨b, 0, none⟩) 0 0) ha hS fun b7 w a hb8 hS ha => ?_)))));refine jQ [(1, 12, .slice (some ⟨b7, 0, none⟩) 0 0)] ha fun a ha => ?_;refine jY (jJ (wp_seq (wp_seq (jX [0, 1, 2, 3, 4, 5] (jQ [(0, 33, ptr bm1 0), (1, 34, ptr bm1 0), (2, 35, ptr bm1 9)] ha fun a ha => ?_)))));refine jU (d := 36) (b := bm1) (j := 9) ha (hS.blk 1 rfl) rfl fun a ha => ?_;replace hS := hS.pickN 10 [5, 0, 1, 2, 3, 4, 6, 7, 8, 9];obtain ⟨k0, hch⟩ := run_chn c6;have hlt9 : k0 < (rn l f arg fuel).m.panics.length := hch.lt;have hpt : (rn l f arg fuel).m.panics.length ≤ 1000 := Nat.le_trans (chn_few hch) (run_few c3);have hul : ms1.us.length = (rn l f arg fuel).m.panics.length := by rw [← hms1, List.length_map]
   have hus : ∀ (j : Nat) y, ms1.us[j]? = some y → (rn l f arg fuel).m.panics[j]? = some y.1 := fun j y hy => by rw [← hms1, List.getElem?_map, hy]; rfl
   obtain ⟨x0, hx0⟩ : ∃ x, ms1.us[k0]? = some x := ⟨_, List.getElem?_eq_getElem (by omega)⟩;refine jZ (qG 37 (vs := [.slice ms1.pa.A ms1.pa.n ms1.pa.c, (.func (.func 54) #[] #[])]) ha (pix_sat hS (by omega) hx0 ((hch.fa k0 x0.1 (hus _ _ hx0)).2 rfl) (fun j y hy h9 => (hch.fa j y.1 (hus _ _ hy)).1 h9)) fun v9 w a hp10 ha => ?_);obtain ⟨rfl, hS⟩ := hp10;refine jQ [(5, 13, iv (k0 : Int))] ha fun a ha => ?_;refine jY (jJ (wp_block ?_));replace hS := hS.blk0 1 1 rfl;replace hS := hS.pickN 10 [2, 0, 1];refine wp_loop_ghost (fun n_ a_ w_ => ∃ (k : Int) (L : List Int) (o : Sl), n_ = (k + 1).toNat ∧ (-1 ≤ k ∧ k < (ms1.us.length : Int)) ∧ (L ++ chainR (rn l f arg fuel).m k = chainOf (rn l f arg fuel).m) ∧ ((L.length : Int) + k < (ms1.us.length : Int)) ∧ Has 62 [(8, .slice none 0 0), (9, .bool false), (10, ptr bm1 0), (12, .slice o.A o.n o.c), (13, iv k)] a_ ∧ Sat w0 w_ ((MO bm1 s fuel ((rn l f arg fuel).m.made) ((rn l f arg fuel).m.shared) ((rn l f arg fuel).m.depth) ((rn l f arg fuel).m.deepest) ms1.tr ms1.ow ms1.ca ms1.pa ms1.re ms1.bp ((rn l f arg fuel).k) ((rn l f arg fuel).v)) :: (rP ms1.pa ms1.us) :: (rI o L) :: Rs)) _ ⟨(k0 : Int), [], ⟨some ⟨b7, 0, none⟩, 0, 0⟩, rfl, ⟨by omega, by omega⟩, by rw [List.nil_append]; unfold chainOf; rw [arr_idx hch], by simp only [List.length_nil]; omega, ha.keeps [8, 9, 10, 12, 13] _ rfl, hS⟩ ?_
   rintro n_ a w ⟨k, L, o, rfl, hk2, hL, hLn, ha, hS⟩
   refine wp_seq (wp_seq (jX [0, 1] (jQ [(0, 38, iv k), (1, 39, .bool (decide (k ≥ 0)))] ha fun a ha => ?_)));refine jY (jJ ?_)
   by_cases c11 : k ≥ 0
   ·
    obtain ⟨x, hx⟩ : ∃ x, ms1.us[k.toNat]? = some x := ⟨_, List.getElem?_eq_getElem (by omega)⟩;refine jG ha rfl (decide_eq_true c11) ?_;refine wp_skip (jJ (wp_seq (wp_block (jX [0, 1, 2, 3, 4, 5, 6, 7, 8, 9, 10, 11] (jQ [(0, 48, .slice o.A o.n o.c), (1, 49, ptr bm1 0), (2, 50, ptr bm1 0), (3, 51, ptr bm1 9)] ha fun a ha => ?_)))));refine jU (d := 52) (b := bm1) (j := 9) ha (hS.blk 0 rfl) rfl fun a ha => ?_;refine jQ [(5, 53, iv k)] ha fun a ha => ?_;refine xU (.pointer (some ⟨bk ms1.pa, k.toNat * 9, none⟩)) ha (xW (s := ms1.pa) (el := 113) (sz := 9) (j := k.toNat) ha (yU (t := 87) (x := 52) (y := 53) (d := 54)) rfl rfl (by kernel_rfl) (by kernel_rfl) (hS.rowA (s := ms1.pa) 1 rfl (by have := (List.getElem?_eq_some_iff.1 hx).1; rw [encP_length]; omega)) ((Int.toNat_of_nonneg (by omega)).symm) (by have h9 := hS.rowL (s := ms1.pa) (enc := cellsP) 1 xK (by decide) rfl; have := (List.getElem?_eq_some_iff.1 hx).1; omega)) fun a ha => ?_;refine jQ [(7, 55, .pointer (some ⟨bk ms1.pa, k.toNat * 9 + 2, none⟩))] ha fun a ha => ?_;refine xU (iv x.1.value) ha (zK ha (zV (t := 3) (x := 55) (d := 56) (ty := 3)) rfl (by kernel_rfl) (fun w' hw => by rw [hw]; exact (hS.rdC (s := ms1.pa) 1 rfl).cells _ _ ((flat_get (enc := cellsP) (o := 2) xK hx (by decide)).trans rfl))) fun a ha => ?_;refine jZ (qJ 57 [iv x.1.value] 3 (fun b => .slice (some ⟨b, 0, none⟩) 1 1) ha hS fun b12 w a hb13 hS ha => ?_);refine jZ (o_ap 58 3 0 (SX.encI (L ++ [x.1.value])) ha hS rfl rfl (by rw [encI_length]; simp only [List.length_cons, List.length_nil]; omega) (encI_snoc _ _) fun s17 w a hS hn18 ha => ?_);refine jQ [(11, 12, .slice s17.A s17.n s17.c)] ha fun a ha => ?_;refine jY (in_n (jJ (jX [0, 1, 2, 3, 4, 5, 6, 7, 8] (jQ [(0, 40, ptr bm1 0), (1, 41, ptr bm1 0), (2, 42, ptr bm1 9)] ha fun a ha => ?_))));refine jU (d := 43) (b := bm1) (j := 9) ha (hS.blk 1 rfl) rfl fun a ha => ?_;refine jQ [(4, 44, iv k)] ha fun a ha => ?_;refine xU (.pointer (some ⟨bk ms1.pa, k.toNat * 9, none⟩)) ha (xW (s := ms1.pa) (el := 113) (sz := 9) (j := k.toNat) ha (yU (t := 87) (x := 43) (y := 44) (d := 45)) rfl rfl (by kernel_rfl) (by kernel_rfl) (hS.rowA (s := ms1.pa) 2 rfl (by have := (List.getElem?_eq_some_iff.1 hx).1; rw [encP_length]; omega)) ((Int.toNat_of_nonneg (by omega)).symm) (by have h9 := hS.rowL (s := ms1.pa) (enc := cellsP) 2 xK (by decide) rfl; have := (List.getElem?_eq_some_iff.1 hx).1; omega)) fun a ha => ?_;refine jQ [(6, 46, .pointer (some ⟨bk ms1.pa, k.toNat * 9 + 6, none⟩))] ha fun a ha => ?_;refine xU (iv x.1.last) ha (zK ha (zV (t := 3) (x := 46) (d := 47) (ty := 3)) rfl (by kernel_rfl) (fun w' hw => by rw [hw]; exact (hS.rdC (s := ms1.pa) 2 rfl).cells _ _ ((flat_get (enc := cellsP) (o := 6) xK hx (by decide)).trans rfl))) fun a ha => ?_;refine jQ [(8, 13, iv x.1.last)] ha fun a ha => ?_;refine jY (jJ ?_);replace hS := hS.pickN 4 [1, 2, 3];exact ⟨_, by have := hch.la k.toNat x.1 (hus _ x hx); omega, x.1.last, (L ++ [x.1.value]), s17, rfl, by have := hch.la k.toNat x.1 (hus _ x hx); omega, by have h9 := hL; rw [show k = ((k.toNat : Nat) : Int) from (Int.toNat_of_nonneg (by omega)).symm, chainR_next hch (hus _ x hx)] at h9; rw [← h9]; simp, by have := hch.la k.toNat x.1 (hus _ x hx); simp only [List.length_append, List.length_cons, List.length_nil]; omega, ha.keeps [8, 9, 10, 12, 13] _ rfl, hS⟩
   refine jV ha rfl (decide_eq_false c11) ?_;refine wp_exit (yX (yX (in_x (jJ (wp_seq (jX [0, 1] (jQ [(0, 59, .slice o.A o.n o.c)] ha fun a ha => ?_)))))));replace hS := hS.pickN 3 [2, 0, 1];refine jZ (qG 60 (vs := [.slice o.A o.n o.c]) ha (rev_sat hS (by omega)) fun v19 w a hp20 ha => ?_);obtain ⟨rfl, hS⟩ := hp20;refine jY (jJ (wp_seq (jX [0, 1, 2] (jQ [(0, 61, .slice o.A o.n o.c), (1, 8, .slice o.A o.n o.c), (2, 9, .bool true)] ha fun a ha => ?_))));refine jY ?_;replace ha := ha.as [(8, .slice o.A o.n o.c), (9, .bool true)] rfl;refine jJ (wp_ret (yH ha (by kernel_rfl) (yJ (t := 8) ha rfl) (yJ (t := 9) ha rfl) ?_));have hE : L = chainOf (rn l f arg fuel).m := by have h9 := hL; rw [chainR_end _ (by omega), List.append_nil] at h9; exact h9
   rw [pchP_yes c3 c6, ← hE];exact ⟨o, rfl, hS.pickN 3 [0]⟩
  refine jG ha rfl (kJ (decide_eq_false c6)) ?_
  refine wp_seq (jX [0, 1] (jQ [(0, 8, .slice none 0 0), (1, 9, .bool false)] ha fun a ha => ?_))
  refine jY (jJ (wp_ret (xQ (yH ha (by kernel_rfl) (yJ (t := 8) ha rfl) (yJ (t := 9) ha rfl) ?_))))
  rw [pchP_no2 c6]
  exact ⟨⟨none, 0, 0⟩, rfl, Sat.nilRow (Sat.rest [_, _, _, _, _, _, _, _, _] hS)⟩
 refine jZ (qG 19 (vs := [.agg #[.slice s.A s.n s.c], iv f, iv arg, iv fuel]) ha (ran_no hS (hr.sat hS) c3) fun v21 w a hp22 ha => ?_)
 obtain ⟨rfl, hS⟩ := hp22
 refine jQ [(5, 14, .tuple #[.pointer none, .bool false]), (6, 20, .pointer none), (7, 21, .bool false), (8, 10, .pointer none), (9, 11, .bool false)] ha fun a ha => ?_
 refine jY (jJ (wp_seq (wp_seq (jX [0, 1, 2, 3, 4, 5, 6, 7, 8, 9] (jQ [(0, 22, .bool false), (1, 23, .bool true), (2, 24, .bool true), (3, 25, undef), (4, 26, undef), (5, 27, undef), (6, 28, undef), (7, 29, undef), (8, 30, undef), (9, 31, .bool true)] ha fun a ha => ?_)))))
 refine jY ?_
 replace ha := ha.as [(8, .slice none 0 0), (9, .bool false), (10, .pointer none), (31, .bool true)] rfl
 refine jJ ?_
 refine jG ha rfl rfl ?_
 refine wp_seq (jX [0, 1] (jQ [(0, 8, .slice none 0 0), (1, 9, .bool false)] ha fun a ha => ?_))
 refine jY (jJ (wp_ret (xQ (yH ha (by kernel_rfl) (yJ (t := 8) ha rfl) (yJ (t := 9) ha rfl) ?_))))
 rw [pchP_no1 c3]
 exact ⟨⟨none, 0, 0⟩, rfl, Sat.nilRow (Sat.rest [_] hS)⟩
theorem code15 : Try.f15.body = some (Code.seq (cr Try.f15 0 false) (Code.seq (cr Try.f15 1 false) (Code.seq (Code.seq (cr Try.f15 2 false) (Code.cond (Operand.tmp 25) (Code.seq (cr Try.f15 3 false) Code.ret) Code.skip)) (Code.seq (cr Try.f15 4 false) (Code.seq (cr Try.f15 5 false) (Code.seq (cr Try.f15 6 false) (Code.seq (Code.seq (cr Try.f15 7 false) (Code.block 0 (Code.loop (Code.seq (cr Try.f15 8 false) (Code.seq (Code.cond (Operand.tmp 38) Code.skip (Code.exit 0)) (Code.seq (Code.block 1 (Code.seq (cr Try.f15 9 false) (Code.seq (cr Try.f15 10 false) (Code.seq (Code.seq (cr Try.f15 11 false) (Code.cond (Operand.tmp 54) (cr Try.f15 12 false) Code.skip)) (cr Try.f15 13 false))))) (cr Try.f15 14 false))))))) (Code.seq (cr Try.f15 15 false) Code.ret)))))))) := by kernel_rfl
theorem impl_ErrorsOfRun_satB {w0 w : World} {Rs : List Asn} {s : Sl} {l : List (List ST)} {f arg fuel : Int} (hS : Sat w0 w Rs) (hr : RdP w0 s l) (hf : Fits l) :
  Calls Try.prog 15 #[.agg #[.slice s.A s.n s.c], iv f, iv arg, iv fuel] w (Ret fun r w' => ∃ (o : Sl) (us : List NdS), us.map plN = (errP l f arg fuel).1 ∧ r = .tuple #[.agg #[.slice o.A o.n o.c], .bool (errP l f arg fuel).2] ∧ Sat w0 w' (SX.row (.slice o.A o.n o.c) 71 3 (encN us) :: jW (us.map ownN) :: Rs)) := by
 refine enter (n := 65) Try.func15 code15 (by kernel_rfl) (Nat.le_of_ble_eq_true rfl) (fun a ha => ?_)
 replace ha : Has 65 [(0, .agg #[.slice s.A s.n s.c]), (1, iv f), (2, iv arg), (3, iv fuel)] a := ha
 refine wp_seq (jX [0, 1, 2] (jZ (qJ 4 [.slice s.A s.n s.c] 40 (ptr · 0) ha hS fun b1 w a hb2 hS ha => ?_)))
 refine jZ (qJ 8 [.slice none 0 0] 35 (ptr · 0) ha hS fun b3 w a hb4 hS ha => ?_)
 refine jQ [(2, 9, .bool false)] ha fun a ha => ?_
 refine jY (jJ (wp_seq (jX [0, 1, 2, 3, 4, 5, 6, 7, 8, 9] (xG 17 ha (hS.blk 1 rfl) fun a ha => ?_))))
 refine jQ [(1, 18, iv f), (2, 19, iv arg), (3, 20, iv fuel)] ha fun a ha => ?_
 refine jZ (qG 21 (vs := [.agg #[.slice s.A s.n s.c], iv f, iv arg, iv fuel]) ha (impl_Pch_sat hS hr hf) fun v5 w a hp6 ha => ?_)
 obtain ⟨oc, rfl, hS⟩ := hp6
 refine jQ [(5, 16, .tuple #[.slice oc.A oc.n oc.c, .bool ((pchP l f arg fuel).2)]), (6, 22, .slice oc.A oc.n oc.c), (7, 23, .bool ((pchP l f arg fuel).2)), (8, 10, .slice oc.A oc.n oc.c), (9, 11, .bool ((pchP l f arg fuel).2))] ha fun a ha => ?_
 refine jY (jJ (wp_seq (wp_seq (jX [0, 1] (jQ [(0, 24, .bool ((pchP l f arg fuel).2)), (1, 25, .bool (!((pchP l f arg fuel).2)))] ha fun a ha => ?_)))))
 refine jY (jJ ?_)
 rcases Bool.eq_false_or_eq_true ((pchP l f arg fuel).2) with c7 | c7
 ·
  obtain ⟨C, hC1, hC2, hC3, hC4⟩ := errP_yes c7
  refine jV ha rfl (zX c7) ?_
  refine wp_skip (jJ (wp_seq (jX [0, 1] (jQ [(0, 27, .slice oc.A oc.n oc.c)] ha fun a ha => ?_))))
  replace hS : Sat w0 w ((rI oc ((pchP l f arg fuel).1)) :: (SX.blk b3 [.slice none 0 0] 35) :: (SX.blk b1 [.slice s.A s.n s.c] 40) :: Rs) := hS
  replace hS : Sat w0 w ((rI oc C.reverse) :: (SX.blk b3 [.slice none 0 0] 35) :: (SX.blk b1 [.slice s.A s.n s.c] 40) :: Rs) := by rw [← hC4]; exact hS
  refine jZ (qG 28 (vs := [.slice oc.A oc.n oc.c]) ha (rev_sat hS (by rw [List.length_reverse]; omega)) fun v8 w a hp9 ha => ?_)
  obtain ⟨rfl, hS⟩ := hp9
  refine jY (jJ (wp_seq ?_))
  replace hS : Sat w0 w ((RwJ oc C) :: (SX.blk b3 [.slice none 0 0] 35) :: (SX.blk b1 [.slice s.A s.n s.c] 40) :: Rs) := by unfold RwJ; rw [← encJ_I, ← List.reverse_reverse C]; exact hS
  have hoc := hS.rowL (s := oc) (enc := cellsJ) 0 cellsJ_len (by decide) rfl
  refine jX [0, 1, 2, 3, 4, 5] (jQ [(0, 29, .slice oc.A oc.n oc.c), (1, 30, .slice oc.A oc.n oc.c), (2, 31, iv (oc.n : Int))] ha fun a ha => ?_)
  refine xU (iv (min (oc.n : Int) 12)) ha ((qZ (v := .int .i64 (if 12 < (oc.n : Int) then 12 else (oc.n : Int))) ha (zW (op := (Op.call { callee := (Callee.builtin Builtin.min), args := #[(Operand.tmp 31), (Operand.const (Value.int IntKind.i64 12))], argTypes := #[3, 3] })) (d := some 32) (ty := 3)) (by kernel_rfl) (fun _ => by kernel_rfl)).as (by congr 1; omega)) fun a ha => ?_
  refine xU (.slice oc.A (min C.length 12) oc.c) ha (v_takeZ (el := 3) (j := (min C.length 12)) ha (zW (op := (Op.slice 49 (Operand.tmp 29) none (some (Operand.tmp 32)) none)) (d := some 33) (ty := 49)) rfl rfl (by kernel_rfl) (by kernel_rfl) (by omega) (by omega) (row_cap hS 0 rfl)) fun a ha => ?_
  refine jQ [(5, 10, .slice oc.A (min C.length 12) oc.c)] ha fun a ha => ?_
  refine jY ?_
  replace ha := ha.as [(8, ptr b3 0), (9, .bool false), (10, .slice oc.A (min C.length 12) oc.c)] rfl
  refine jJ (wp_seq ?_)
  replace hS : Sat w0 w ((SX.row (.slice oc.A (min C.length 12) oc.c) 3 1 (encJ (C.take (min C.length 12)))) :: (SX.blk b3 [.slice none 0 0] 35) :: (SX.blk b1 [.slice s.A s.n s.c] 40) :: Rs) := by have hh := Sat.rowTake hS 0 rfl (min C.length 12) (by omega); rw [encJ_takeE] at hh; exact hh
  obtain ⟨s_1, hs_1⟩ : ∃ z : Sl, z = ⟨oc.A, (min C.length 12), oc.c⟩ := ⟨_, rfl⟩
  replace hS : Sat w0 w ((RwJ s_1 (C.take (min C.length 12))) :: (SX.blk b3 [.slice none 0 0] 35) :: (SX.blk b1 [.slice s.A s.n s.c] 40) :: Rs) := by rw [hs_1]; exact hS
  replace ha : Has 65 [(8, ptr b3 0), (9, .bool false), (10, .slice s_1.A s_1.n s_1.c)] a := by rw [hs_1]; exact ha.keeps [8, 9, 10] _ rfl
  have hzr : s_1.n = (min C.length 12) := by rw [hs_1]
  refine jX [0, 1, 2] (jQ [(0, 34, .agg #[.slice none 0 0])] ha fun a ha => ?_)
  refine jZ (qJ 12 [.slice none 0 0] 35 (ptr · 0) ha hS fun b10 w a hb11 hS ha => ?_)
  refine jZ (o_sa 0 ha (qU (t := 35) (x := 12) (y := 34)) hS fun w a hS ha => ?_)
  refine jY (jJ (wp_seq (wp_seq (jX [0, 1, 2] (jQ [(0, 35, .slice s_1.A s_1.n s_1.c), (1, 36, iv (s_1.n : Int)), (2, 37, iv 0)] ha fun a ha => ?_)))))
  refine jY (jJ (wp_block ?_))
  replace hS := Sat.nilRow (T := 71) (sz := 3) hS
  replace hS := Sat.merge (l := []) hS
  replace hS := hS.pickN 6 [2, 4, 3, 1, 0]
  refine wp_loop_ghost (fun n_ a_ w_ => ∃ (i : Nat) (o : Sl) (us : List NdS), n_ = (min C.length 12) - i ∧ (i ≤ (min C.length 12)) ∧ (us.map plN = (nodesE C).take i) ∧ (us.length = i) ∧ Has 65 [(8, ptr b3 0), (9, .bool false), (10, .slice s_1.A s_1.n s_1.c), (12, ptr b10 0), (35, .slice s_1.A s_1.n s_1.c), (36, iv (s_1.n : Int)), (37, iv (i : Int))] a_ ∧ Sat w0 w_ ((SX.blk b10 [.slice o.A o.n o.c] 35) :: (SX.blk b3 [.slice none 0 0] 35) :: (RwJ s_1 (C.take (min C.length 12))) :: (SX.row (.slice o.A o.n o.c) 71 3 (encN us)) :: (jW (us.map ownN)) :: Rs)) _ ⟨0, ⟨none, 0, 0⟩, [], rfl, Nat.zero_le _, rfl, rfl, ha.keeps [8, 9, 10, 12, 35, 36, 37] _ rfl, hS⟩ ?_
  rintro n_ a w ⟨i, o, us, rfl, hi, hus, hun, ha, hS⟩
  have hon : o.n = us.length := hS.rowL (s := o) (enc := cellsN) 3 cellsN_len (by decide) rfl
  refine wp_seq (jX [0] (jQ [(0, 38, .bool (decide ((i : Int) < (s_1.n : Int))))] ha fun a ha => ?_))
  refine jY (jJ (wp_seq ?_))
  by_cases c12 : (i : Int) < (s_1.n : Int)
  ·
   obtain ⟨v, hv⟩ : ∃ v, C[i]? = some v := ⟨_, List.getElem?_eq_getElem (by omega)⟩;have hv2 : (C.take (min C.length 12))[i]? = some v := by rw [List.getElem?_take, if_pos (by omega)]; exact hv
   have htm := tmod100 v;refine jG ha rfl (decide_eq_true c12) ?_;refine wp_skip (jJ (wp_seq (wp_block (wp_seq (jX [0, 1, 2, 3, 4] (jQ [(0, 39, iv (i : Int))] ha fun a ha => ?_))))));refine xU (.pointer (some ⟨bk s_1, i * 1, none⟩)) ha (xW (s := s_1) (el := 3) (sz := 1) (j := i) ha (yU (t := 49) (x := 35) (y := 37) (d := 40)) rfl rfl (by kernel_rfl) (by kernel_rfl) (hS.rowA (s := s_1) 2 rfl (by have := (List.getElem?_eq_some_iff.1 hv2).1; rw [encJ_length]; omega)) (rfl) (by have h9 := hS.rowL (s := s_1) (enc := cellsJ) 2 cellsJ_len (by decide) rfl; have := (List.getElem?_eq_some_iff.1 hv2).1; omega)) fun a ha => ?_;refine xU (iv v) ha (zK ha (zV (t := 3) (x := 40) (d := 41) (ty := 3)) rfl (by kernel_rfl) (fun w' hw => by rw [hw]; exact (hS.rdC (s := s_1) 2 rfl).cells _ _ ((flat_get (enc := cellsJ) (o := 0) cellsJ_len hv2 (by decide)).trans rfl))) fun a ha => ?_;refine jQ [(3, 13, iv (i : Int)), (4, 14, iv v)] ha fun a ha => ?_;refine jY (jJ (wp_seq (jX [0, 1, 2, 3, 4, 5, 6, 7, 8, 9] (jQ [(0, 42, iv v), (1, 43, iv (v.tmod 100))] ha fun a ha => ?_))));refine zJ 44 ((v.tmod 100) + 100) ha fun a ha => ?_;refine jQ [(3, 45, iv (((v.tmod 100) + 100).tmod 100)), (4, 46, iv (i : Int))] ha fun a ha => ?_;refine zJ 47 ((i : Int) + 1) ha fun a ha => ?_;refine jZ (qJ 48 [iv ((i : Int) + 1)] 3 (fun b => .slice (some ⟨b, 0, none⟩) 1 1) ha hS fun b13 w a hb14 hS ha => ?_);refine jQ [(7, 49, .agg #[iv 2, iv (((v.tmod 100) + 100).tmod 100), .slice (some ⟨b13, 0, none⟩) 1 1])] ha fun a ha => ?_;refine jZ (qJ 15 [iv 0, iv 0, .slice none 0 0] 71 (ptr · 0) ha hS fun b15 w a hb16 hS ha => ?_);refine jZ (o_sa 0 ha (qU (t := 71) (x := 15) (y := 49)) hS fun w a hS ha => ?_);refine jY (jJ (wp_seq (wp_seq (jX [0, 1, 2, 3, 4] (jQ [(0, 50, iv (i : Int)), (1, 51, .slice s_1.A s_1.n s_1.c), (2, 52, iv (s_1.n : Int))] ha fun a ha => ?_)))));refine zJ 53 ((s_1.n : Int) - 1) ha fun a ha => ?_;refine jQ [(4, 54, .bool (decide ((i : Int) = ((s_1.n : Int) - 1))))] ha fun a ha => ?_;refine jY (jJ ?_)
   by_cases c17 : (i : Int) = ((s_1.n : Int) - 1)
   ·
    refine jG ha rfl (decide_eq_true c17) ?_;refine jX [0, 1, 2, 3] (jQ [(0, 55, ptr b15 0)] ha fun a ha => ?_);refine jZ (qH b15 0 (iv 1) 0 ha hS rfl rfl fun w a hS ha => ?_);refine jQ [(2, 56, ptr b15 2)] ha fun a ha => ?_;refine jZ (qH b15 2 (.slice none 0 0) 0 ha hS rfl rfl fun w a hS ha => ?_);refine jY (jJ (jX [0, 1, 2, 3, 4, 5, 6] (jQ [(0, 57, ptr b10 0)] ha fun a ha => ?_)));refine jU (d := 58) (b := b10) (j := 0) ha (hS.blk 2 rfl) rfl fun a ha => ?_;refine xG 59 ha (hS.blk 0 rfl) fun a ha => ?_;refine jZ (qJ 60 [iv 1, iv (((v.tmod 100) + 100).tmod 100), .slice none 0 0] 71 (fun b => .slice (some ⟨b, 0, none⟩) 1 1) ha hS fun b18 w a hb19 hS ha => ?_);refine jZ (o_ap 61 6 0 (encN (us ++ [⟨1, ((v.tmod 100) + 100).tmod 100, ⟨none, 0, 0⟩, []⟩])) ha hS rfl rfl (by rw [encN_length]; simp only [List.length_cons, List.length_nil]; omega) (encN_snoc _ _ _ ⟨none, 0, 0⟩ _) fun s23 w a hS hn24 ha => ?_);refine jQ [(5, 62, ptr b10 0)] ha fun a ha => ?_;refine jZ (qH b10 0 (.slice s23.A s23.n s23.c) 3 ha hS rfl rfl fun w a hS ha => ?_);refine jY (in_n (jJ (jX [0, 1] (zJ 63 ((i : Int) + 1) ha fun a ha => ?_))));refine jQ [(1, 37, iv ((i : Int) + 1))] ha fun a ha => ?_;refine jY (jJ ?_);replace hS := hS.pickN 8 [7, 3, 4, 5, 6];replace hS : Sat w0 w ((jW ((us ++ [(⟨1, ((v.tmod 100) + 100).tmod 100, ⟨none, 0, 0⟩, []⟩ : NdS)]).map ownN)) :: (SX.blk b10 [.slice s23.A s23.n s23.c] 35) :: (SX.blk b3 [.slice none 0 0] 35) :: (RwJ s_1 (C.take (min C.length 12))) :: (SX.row (.slice s23.A s23.n s23.c) 71 3 (encN (us ++ [⟨1, ((v.tmod 100) + 100).tmod 100, ⟨none, 0, 0⟩, []⟩]))) :: Rs) := nilN hS;replace hS := hS.pickN 5 [1, 2, 3, 4, 0];exact ⟨_, by omega, i + 1, s23, us ++ [(⟨1, ((v.tmod 100) + 100).tmod 100, ⟨none, 0, 0⟩, []⟩ : NdS)], rfl, by omega, plN_next hus hv (by omega) (plN_last (by omega) rfl), by rw [List.length_append, List.length_singleton]; omega, ha.keeps [8, 9, 10, 12, 35, 36, 37] _ rfl, hS⟩
   refine jV ha rfl (decide_eq_false c17) ?_;refine wp_skip (jJ (jX [0, 1, 2, 3, 4, 5, 6] (jQ [(0, 57, ptr b10 0)] ha fun a ha => ?_)));refine jU (d := 58) (b := b10) (j := 0) ha (hS.blk 2 rfl) rfl fun a ha => ?_;refine xG 59 ha (hS.blk 0 rfl) fun a ha => ?_;refine jZ (qJ 60 [iv 2, iv (((v.tmod 100) + 100).tmod 100), .slice (some ⟨b13, 0, none⟩) 1 1] 71 (fun b => .slice (some ⟨b, 0, none⟩) 1 1) ha hS fun b25 w a hb26 hS ha => ?_);refine jZ (o_ap 61 6 0 (encN (us ++ [⟨2, ((v.tmod 100) + 100).tmod 100, ⟨some ⟨b13, 0, none⟩, 1, 1⟩, [(i : Int) + 1]⟩])) ha hS rfl rfl (by rw [encN_length]; simp only [List.length_cons, List.length_nil]; omega) (encN_snoc _ _ _ ⟨some ⟨b13, 0, none⟩, 1, 1⟩ _) fun s30 w a hS hn31 ha => ?_);refine jQ [(5, 62, ptr b10 0)] ha fun a ha => ?_;refine jZ (qH b10 0 (.slice s30.A s30.n s30.c) 3 ha hS rfl rfl fun w a hS ha => ?_);refine jY (in_n (jJ (jX [0, 1] (zJ 63 ((i : Int) + 1) ha fun a ha => ?_))));refine jQ [(1, 37, iv ((i : Int) + 1))] ha fun a ha => ?_;refine jY (jJ ?_);replace hS := litRow hS 1 1 2 rfl rfl (by decide);replace hS := hS.pickN 8 [2, 7, 3, 4, 5, 6];replace hS : Sat w0 w ((jW ((us ++ [(⟨2, ((v.tmod 100) + 100).tmod 100, ⟨some ⟨b13, 0, none⟩, 1, 1⟩, [(i : Int) + 1]⟩ : NdS)]).map ownN)) :: (SX.blk b10 [.slice s30.A s30.n s30.c] 35) :: (SX.blk b3 [.slice none 0 0] 35) :: (RwJ s_1 (C.take (min C.length 12))) :: (SX.row (.slice s30.A s30.n s30.c) 71 3 (encN (us ++ [⟨2, ((v.tmod 100) + 100).tmod 100, ⟨some ⟨b13, 0, none⟩, 1, 1⟩, [(i : Int) + 1]⟩]))) :: Rs) := oneN hS;replace hS := hS.pickN 5 [1, 2, 3, 4, 0];exact ⟨_, by omega, i + 1, s30, us ++ [(⟨2, ((v.tmod 100) + 100).tmod 100, ⟨some ⟨b13, 0, none⟩, 1, 1⟩, [(i : Int) + 1]⟩ : NdS)], rfl, by omega, plN_next hus hv (by omega) (plN_more (by omega) rfl (by omega)), by rw [List.length_append, List.length_singleton]; omega, ha.keeps [8, 9, 10, 12, 35, 36, 37] _ rfl, hS⟩
  refine jV ha rfl (decide_eq_false c12) ?_
  refine wp_exit (yX (yX (in_x (jJ (wp_seq (jX [0, 1, 2] (xG 64 ha (hS.blk 0 rfl) fun a ha => ?_)))))))
  refine jZ (o_sa 1 ha (qU (t := 35) (x := 8) (y := 64)) hS fun w a hS ha => ?_)
  refine jQ [(2, 9, .bool true)] ha fun a ha => ?_
  refine jY (jJ (wp_ret (yH ha (by kernel_rfl) (xZ (t := 8) (ty := 35) (i := 1) ha rfl hS rfl (by kernel_rfl)) (yJ (t := 9) ha rfl) ?_)))
  rw [hC3]
  exact ⟨o, us, plN_all hus (by omega), rfl, hS.pickN 5 [3, 4]⟩
 refine jG ha rfl (kJ c7) ?_
 refine wp_seq (jX [0, 1, 2] (jQ [(0, 26, .agg #[.slice none 0 0])] ha fun a ha => ?_))
 refine jZ (o_sa 1 ha (qU (t := 35) (x := 8) (y := 26)) hS fun w a hS ha => ?_)
 refine jQ [(2, 9, .bool false)] ha fun a ha => ?_
 refine jY (jJ (wp_ret (xQ (yH ha (by kernel_rfl) (xZ (t := 8) (ty := 35) (i := 1) ha rfl hS rfl (by kernel_rfl)) (yJ (t := 9) ha rfl) ?_))))
 rw [errP_no c7]
 exact ⟨⟨none, 0, 0⟩, [], rfl, rfl, Sat.nilRow (Sat.merge (l := []) (Sat.rest [_, _, _] hS))⟩
theorem impl_ErrorsOfRun_sat {w0 w : World} {Rs : List Asn} {s : Sl} {l : List (List ST)} {f arg fuel : Int} (hS : Sat w0 w Rs) (hr : RdP w s l) (hf : Fits l) :
  Calls Try.prog 15 #[.agg #[.slice s.A s.n s.c], iv f, iv arg, iv fuel] w (Ret fun r w' => ∃ (o : Sl) (us : List NdS), us.map plN = (errP l f arg fuel).1 ∧ r = .tuple #[.agg #[.slice o.A o.n o.c], .bool (errP l f arg fuel).2] ∧ Sat w0 w' (SX.row (.slice o.A o.n o.c) 71 3 (encN us) :: jW (us.map ownN) :: Rs)) :=
 (impl_ErrorsOfRun_satB (Sat.start w) hr hf).mono fun e w' h => by
  cases e with
  | returned r => obtain ⟨o, us, h1, h2, h3⟩ := h; exact ⟨o, us, h1, h2, hS.comp h3⟩
  | _ => exact h.elim
theorem code13 : Try.f13.body = some (Code.seq (cr Try.f13 0 false) (Code.seq (cr Try.f13 1 false) (Code.seq (Code.seq (cr Try.f13 2 false) (Code.cond (Operand.tmp 24) (Code.seq (cr Try.f13 3 false) Code.ret) Code.skip)) (Code.seq (cr Try.f13 4 false) (Code.seq (Code.seq (cr Try.f13 5 false) (Code.block 0 (Code.loop (Code.seq (Code.seq (cr Try.f13 6 false) (Code.cond (Operand.tmp 38) Code.skip (Code.exit 0))) (Code.seq (Code.block 1 (Code.seq (cr Try.f13 8 true) (Code.seq (Code.seq (cr Try.f13 9 false) (Code.cond (Operand.tmp 61) (Code.seq (cr Try.f13 10 false) (cr Try.f13 11 false)) Code.skip)) (cr Try.f13 12 false)))) (cr Try.f13 7 false)))))) (Code.seq (cr Try.f13 13 false) Code.ret)))))) := by kernel_rfl
theorem spec_ErrorsOfRun_satB {w0 w : World} {Rs : List Asn} {s : Sl} {l : List (List ST)} {f arg fuel : Int} (hS : Sat w0 w Rs) (hr : RdP w0 s l) (hf : Fits l) :
  Calls Try.prog 13 #[.agg #[.slice s.A s.n s.c], iv f, iv arg, iv fuel] w (Ret fun r w' => ∃ (o : Sl) (us : List NdS), us.map plN = (errP l f arg fuel).1 ∧ r = .tuple #[.agg #[.slice o.A o.n o.c], .bool (errP l f arg fuel).2] ∧ Sat w0 w' (SX.row (.slice o.A o.n o.c) 71 3 (encN us) :: jW (us.map ownN) :: Rs)) := by
 refine enter (n := 72) Try.func13 code13 (by kernel_rfl) (Nat.le_of_ble_eq_true rfl) (fun a ha => ?_)
 replace ha : Has 72 [(0, .agg #[.slice s.A s.n s.c]), (1, iv f), (2, iv arg), (3, iv fuel)] a := ha
 refine wp_seq (jX [0, 1, 2] (jZ (qJ 4 [.slice s.A s.n s.c] 40 (ptr · 0) ha hS fun b1 w a hb2 hS ha => ?_)))
 refine jZ (qJ 8 [.slice none 0 0] 35 (ptr · 0) ha hS fun b3 w a hb4 hS ha => ?_)
 refine jQ [(2, 9, .bool false)] ha fun a ha => ?_
 refine jY (jJ (wp_seq (jX [0, 1, 2, 3, 4, 5, 6, 7, 8, 9] (xG 16 ha (hS.blk 1 rfl) fun a ha => ?_))))
 refine jQ [(1, 17, iv f), (2, 18, iv arg), (3, 19, iv fuel)] ha fun a ha => ?_
 refine jZ (qG 20 (vs := [.agg #[.slice s.A s.n s.c], iv f, iv arg, iv fuel]) ha (spec_Pch_sat hS hr hf) fun v5 w a hp6 ha => ?_)
 obtain ⟨oc, rfl, hS⟩ := hp6
 refine jQ [(5, 15, .tuple #[.slice oc.A oc.n oc.c, .bool ((pchP l f arg fuel).2)]), (6, 21, .slice oc.A oc.n oc.c), (7, 22, .bool ((pchP l f arg fuel).2)), (8, 10, .slice oc.A oc.n oc.c), (9, 11, .bool ((pchP l f arg fuel).2))] ha fun a ha => ?_
 refine jY (jJ (wp_seq (wp_seq (jX [0, 1] (jQ [(0, 23, .bool ((pchP l f arg fuel).2)), (1, 24, .bool (!((pchP l f arg fuel).2)))] ha fun a ha => ?_)))))
 refine jY (jJ ?_)
 rcases Bool.eq_false_or_eq_true ((pchP l f arg fuel).2) with c7 | c7
 ·
  obtain ⟨C, hC1, hC2, hC3, hC4⟩ := errP_yes c7
  refine jV ha rfl (zX c7) ?_
  refine wp_skip (jJ (wp_seq ?_))
  replace hS : Sat w0 w ((RwJ oc C.reverse) :: (SX.blk b3 [.slice none 0 0] 35) :: (SX.blk b1 [.slice s.A s.n s.c] 40) :: Rs) := by unfold RwJ; rw [← encJ_I, ← hC4]; exact hS
  have hoc := hS.rowL (s := oc) (enc := cellsJ) 0 cellsJ_len (by decide) rfl
  rw [List.length_reverse] at hoc
  refine jX [0, 1, 2, 3] (jZ (qJ 26 [] 71 (fun b => .slice (some ⟨b, 0, none⟩) 0 0) ha hS fun b8 w a hb9 hS ha => ?_))
  refine jQ [(1, 27, .agg #[.slice (some ⟨b8, 0, none⟩) 0 0])] ha fun a ha => ?_
  refine jZ (qJ 12 [.slice none 0 0] 35 (ptr · 0) ha hS fun b10 w a hb11 hS ha => ?_)
  refine jZ (o_sa 0 ha (qU (t := 35) (x := 12) (y := 27)) hS fun w a hS ha => ?_)
  refine jY (jJ (wp_seq (wp_seq (jX [0, 1, 2, 3] (jQ [(0, 28, .slice oc.A oc.n oc.c), (1, 29, iv (oc.n : Int))] ha fun a ha => ?_)))))
  refine zJ 30 ((oc.n : Int) - 1) ha fun a ha => ?_
  refine jQ [(3, 13, iv ((oc.n : Int) - 1))] ha fun a ha => ?_
  refine jY ?_
  replace ha := ha.as [(8, ptr b3 0), (9, .bool false), (10, .slice oc.A oc.n oc.c), (12, ptr b10 0), (13, iv ((oc.n : Int) - 1))] rfl
  refine jJ (wp_block ?_)
  replace hS := hS.blk0 3 1 rfl
  replace hS := Sat.merge (l := []) hS
  replace hS := hS.pickN 6 [1, 4, 3, 2, 0]
  refine wp_loop_ghost (fun n_ a_ w_ => ∃ (i : Nat) (x : Int) (o : Sl) (us : List NdS), n_ = (min C.length 12) - i ∧ (i ≤ (min C.length 12)) ∧ (us.map plN = (nodesE C).take i) ∧ (us.length = i) ∧ (x = (C.length : Int) - 1 - (i : Int)) ∧ Has 72 [(8, ptr b3 0), (9, .bool false), (10, .slice oc.A oc.n oc.c), (12, ptr b10 0), (13, iv x)] a_ ∧ Sat w0 w_ ((SX.blk b10 [.slice o.A o.n o.c] 35) :: (SX.blk b3 [.slice none 0 0] 35) :: (RwJ oc C.reverse) :: (SX.row (.slice o.A o.n o.c) 71 3 (encN us)) :: (jW (us.map ownN)) :: Rs)) _ ⟨0, (oc.n : Int) - 1, ⟨some ⟨b8, 0, none⟩, 0, 0⟩, [], rfl, Nat.zero_le _, rfl, rfl, by omega, ha.keeps [8, 9, 10, 12, 13] _ rfl, hS⟩ ?_
  rintro n_ a w ⟨i, x, o, us, rfl, hi, hus, hun, hx, ha, hS⟩
  have hon : o.n = us.length := hS.rowL (s := o) (enc := cellsN) 3 cellsN_len (by decide) rfl
  refine wp_seq (wp_seq (jX [0, 1, 2, 3, 4, 5, 6, 7] (jQ [(0, 31, iv x), (1, 32, .bool (decide (x ≥ 0))), (2, 33, .bool (decide (x ≥ 0)))] ha fun a ha => ?_)))
  by_cases c12 : x ≥ 0
  ·
   replace ha := ha.turn 32 (.bool true) rfl (congrArg Value.bool (decide_eq_true c12));replace ha := ha.turn 33 (.bool true) rfl (congrArg Value.bool (decide_eq_true c12));refine jQ [(3, 34, ptr b10 0)] ha fun a ha => ?_;refine jU (d := 35) (b := b10) (j := 0) ha (hS.blk 0 rfl) rfl fun a ha => ?_;refine jQ [(5, 36, iv (o.n : Int)), (6, 37, .bool (decide ((o.n : Int) < 12))), (7, 38, .bool (decide ((o.n : Int) < 12)))] ha fun a ha => ?_;refine jY (jJ ?_)
   by_cases c13 : (o.n : Int) < 12
   ·
    refine jG ha rfl (decide_eq_true c13) ?_;refine wp_skip (jJ (wp_seq (wp_block ?_)));obtain ⟨v, hv⟩ : ∃ v, C[i]? = some v := ⟨_, List.getElem?_eq_getElem (by omega)⟩;have hv2 := rev_at hx (by omega) hv;have htm := tmod100 v;refine kG (J := fun a_ w_ => ∃ (g1_0 : Nat) (g1_1 : Nat), Has 72 [(8, ptr b3 0), (9, .bool false), (10, .slice oc.A oc.n oc.c), (12, ptr b10 0), (13, iv x), (31, iv x), (32, .bool true), (33, .bool true), (34, ptr b10 0), (35, .slice o.A o.n o.c), (36, iv (o.n : Int)), (37, .bool (decide ((o.n : Int) < 12))), (38, .bool (decide ((o.n : Int) < 12))), (41, .slice oc.A oc.n oc.c), (42, iv x), (43, .pointer (some ⟨bk oc, x.toNat * 1, none⟩)), (44, iv v), (45, iv (v.tmod 100)), (46, iv ((v.tmod 100) + 100)), (47, iv (((v.tmod 100) + 100).tmod 100)), (48, ptr b10 0), (49, .slice o.A o.n o.c), (50, iv (o.n : Int)), (51, iv ((o.n : Int) + 1)), (52, .slice (some ⟨g1_0, 0, none⟩) 1 1), (53, .agg #[iv 2, iv (((v.tmod 100) + 100).tmod 100), .slice (some ⟨g1_0, 0, none⟩) 1 1]), (14, ptr g1_1 0)] a_ ∧ Sat w0 w_ ((SX.blk g1_1 [iv 2, iv (((v.tmod 100) + 100).tmod 100), .slice (some ⟨g1_0, 0, none⟩) 1 1] 71) :: (SX.blk g1_0 [iv ((o.n : Int) + 1)] 3) :: (SX.blk b10 [.slice o.A o.n o.c] 35) :: (SX.blk b3 [.slice none 0 0] 35) :: (RwJ oc C.reverse) :: (SX.row (.slice o.A o.n o.c) 71 3 (encN us)) :: (jW (us.map ownN)) :: Rs)) ?_ ?_
    ·
     refine xH 14 15 hS fun w hS => ?_;refine jK (k := 13) [(0, 41, .slice oc.A oc.n oc.c), (1, 42, iv x)] ha (.inr hS) fun a ha => ?_;refine zQ 2 (.pointer (some ⟨bk oc, x.toNat * 1, none⟩)) ha (xW (s := oc) (el := 3) (sz := 1) (j := x.toNat) ha (yU (t := 49) (x := 41) (y := 42) (d := 43)) rfl rfl (by kernel_rfl) (by kernel_rfl) (hS.rowA (s := oc) 2 rfl (by have := (List.getElem?_eq_some_iff.1 hv2).1; rw [encJ_length]; omega)) ((by omega)) (by have h9 := hS.rowL (s := oc) (enc := cellsJ) 2 cellsJ_len (by decide) rfl; have := (List.getElem?_eq_some_iff.1 hv2).1; omega)) (.inr hS) fun a ha => ?_;refine zH 3 (iv v) ha (zK ha (zV (t := 3) (x := 43) (d := 44) (ty := 3)) rfl (by kernel_rfl) (fun w' hw => ((hw.rdC (s := oc) 2 rfl)).cells _ _ ((flat_get (enc := cellsJ) (o := 0) cellsJ_len hv2 (by decide)).trans rfl))) hS fun a ha => ?_;refine jK (k := 10) [(4, 45, iv (v.tmod 100))] ha (.inr hS) fun a ha => ?_;refine kW 5 46 ((v.tmod 100) + 100) ha (.inr hS) fun a ha => ?_;refine jK (k := 7) [(6, 47, iv (((v.tmod 100) + 100).tmod 100)), (7, 48, ptr b10 0)] ha (.inr hS) fun a ha => ?_;refine qW 8 (d := 49) (b := b10) (j := 0) ha hS (fun _ hw => hw.blk 0 rfl) rfl fun a ha => ?_;refine jK (k := 5) [(9, 50, iv (o.n : Int))] ha (.inr hS) fun a ha => ?_;refine kW 10 51 ((o.n : Int) + 1) ha (.inr hS) fun a ha => ?_;refine d_all (rs := [11, 13]) (by kernel_rfl) (by simp) (forall_mem_2 ?_ ?_)
     ·
      refine id (qJ 52 [iv ((o.n : Int) + 1)] 3 (fun b => .slice (some ⟨b, 0, none⟩) 1 1) ha hS fun b14 w a hb15 hS ha => ?_);refine ⟨.inr (Sat.rest [_] hS), ?_⟩;refine jK (k := 2) [(12, 53, .agg #[iv 2, iv (((v.tmod 100) + 100).tmod 100), .slice (some ⟨b14, 0, none⟩) 1 1])] ha (.inr (Sat.rest [_] hS)) fun a ha => ?_;refine jH 13 (qJ 14 [iv 0, iv 0, .slice none 0 0] 71 (ptr · 0) ha hS fun b16 w a hb17 hS ha => ?_);refine ⟨.inr (Sat.rest [_, _] hS), ?_⟩;refine jH 14 (o_sa 0 ha (qU (t := 71) (x := 14) (y := 53)) hS fun w a hS ha => ?_);refine xJ (xX ?_);replace hS : Sat w0 w ((SX.blk b16 [iv 2, iv (((v.tmod 100) + 100).tmod 100), .slice (some ⟨b14, 0, none⟩) 1 1] 71) :: (SX.blk b14 [iv ((o.n : Int) + 1)] 3) :: (SX.blk b10 [.slice o.A o.n o.c] 35) :: (SX.blk b3 [.slice none 0 0] 35) :: (RwJ oc C.reverse) :: (SX.row (.slice o.A o.n o.c) 71 3 (encN us)) :: (jW (us.map ownN)) :: Rs) := hS;exact jJ ⟨b14, b16, ha.keeps [8, 9, 10, 12, 13, 31, 32, 33, 34, 35, 36, 37, 38, 41, 42, 43, 44, 45, 46, 47, 48, 49, 50, 51, 52, 53, 14] _ rfl, hS⟩
     refine id (qJ 14 [iv 0, iv 0, .slice none 0 0] 71 (ptr · 0) ha hS fun b18 w a hb19 hS ha => ?_);refine ⟨.inr (Sat.rest [_] hS), ?_⟩;refine jH 11 (qJ 52 [iv ((o.n : Int) + 1)] 3 (fun b => .slice (some ⟨b, 0, none⟩) 1 1) ha hS fun b20 w a hb21 hS ha => ?_);refine ⟨.inr (Sat.rest [_, _] hS), ?_⟩;refine jK (k := 1) [(12, 53, .agg #[iv 2, iv (((v.tmod 100) + 100).tmod 100), .slice (some ⟨b20, 0, none⟩) 1 1])] ha (.inr (Sat.rest [_, _] hS)) fun a ha => ?_;refine jH 14 (o_sa 1 ha (qU (t := 71) (x := 14) (y := 53)) hS fun w a hS ha => ?_);refine xJ (xX ?_);replace hS := hS.pickN 7 [1, 0, 2, 3, 4, 5, 6];exact jJ ⟨b20, b18, ha.keeps [8, 9, 10, 12, 13, 31, 32, 33, 34, 35, 36, 37, 38, 41, 42, 43, 44, 45, 46, 47, 48, 49, 50, 51, 52, 53, 14] _ rfl, hS⟩
    rintro a w ⟨g1_0, g1_1, ha, hS⟩
    refine wp_seq (wp_seq (jX [0, 1, 2, 3, 4, 5, 6, 7] (jQ [(0, 54, iv x), (1, 55, .bool (decide (x = 0))), (2, 56, .bool (decide (x = 0)))] ha fun a ha => ?_)))
    by_cases c22 : x = 0
    ·
     replace ha := ha.turn 55 (.bool true) rfl (congrArg Value.bool (decide_eq_true c22));replace ha := ha.turn 56 (.bool true) rfl (congrArg Value.bool (decide_eq_true c22));refine jQ [(3, 57, undef), (4, 58, undef), (5, 59, undef), (6, 60, undef), (7, 61, .bool true)] ha fun a ha => ?_;refine jY (jJ ?_);refine jG ha rfl rfl ?_;refine wp_seq (jX [0, 1] (jQ [(0, 62, ptr g1_1 0)] ha fun a ha => ?_));refine jZ (qH g1_1 0 (iv 1) 0 ha hS rfl rfl fun w a hS ha => ?_);refine jY (jJ (jX [0, 1, 2] (jZ (qJ 63 [] 3 (fun b => .slice (some ⟨b, 0, none⟩) 0 0) ha hS fun b23 w a hb24 hS ha => ?_))));refine jQ [(1, 64, ptr g1_1 2)] ha fun a ha => ?_;refine jZ (qH g1_1 2 (.slice (some ⟨b23, 0, none⟩) 0 0) 1 ha hS rfl rfl fun w a hS ha => ?_);refine jY (jJ (jX [0, 1, 2, 3, 4, 5, 6] (jQ [(0, 65, ptr b10 0)] ha fun a ha => ?_)));refine jU (d := 66) (b := b10) (j := 0) ha (hS.blk 3 rfl) rfl fun a ha => ?_;refine xG 67 ha (hS.blk 1 rfl) fun a ha => ?_;refine jZ (qJ 68 [iv 1, iv (((v.tmod 100) + 100).tmod 100), .slice (some ⟨b23, 0, none⟩) 0 0] 71 (fun b => .slice (some ⟨b, 0, none⟩) 1 1) ha hS fun b25 w a hb26 hS ha => ?_);refine jZ (o_ap 69 7 0 (encN (us ++ [⟨1, ((v.tmod 100) + 100).tmod 100, ⟨some ⟨b23, 0, none⟩, 0, 0⟩, []⟩])) ha hS rfl rfl (by rw [encN_length]; simp only [List.length_cons, List.length_nil]; omega) (encN_snoc _ _ _ ⟨some ⟨b23, 0, none⟩, 0, 0⟩ _) fun s30 w a hS hn31 ha => ?_);refine jQ [(5, 70, ptr b10 0)] ha fun a ha => ?_;refine jZ (qH b10 0 (.slice s30.A s30.n s30.c) 4 ha hS rfl rfl fun w a hS ha => ?_);refine jY (in_n (jJ (jX [0, 1, 2] (jQ [(0, 39, iv x)] ha fun a ha => ?_))));refine zJ 40 (x - 1) ha fun a ha => ?_;refine jQ [(2, 13, iv (x - 1))] ha fun a ha => ?_;refine jY (jJ ?_);replace hS := hS.blk0 1 1 rfl;replace hS := hS.pickN 9 [1, 8, 4, 5, 6, 7];replace hS : Sat w0 w ((jW ((us ++ [(⟨1, ((v.tmod 100) + 100).tmod 100, ⟨some ⟨b23, 0, none⟩, 0, 0⟩, []⟩ : NdS)]).map ownN)) :: (SX.blk b10 [.slice s30.A s30.n s30.c] 35) :: (SX.blk b3 [.slice none 0 0] 35) :: (RwJ oc C.reverse) :: (SX.row (.slice s30.A s30.n s30.c) 71 3 (encN (us ++ [⟨1, ((v.tmod 100) + 100).tmod 100, ⟨some ⟨b23, 0, none⟩, 0, 0⟩, []⟩]))) :: Rs) := oneN hS;replace hS := hS.pickN 5 [1, 2, 3, 4, 0];exact ⟨_, by omega, i + 1, x - 1, s30, us ++ [(⟨1, ((v.tmod 100) + 100).tmod 100, ⟨some ⟨b23, 0, none⟩, 0, 0⟩, []⟩ : NdS)], rfl, by omega, plN_next hus hv (by omega) (plN_last (by omega) rfl), by rw [List.length_append, List.length_singleton]; omega, by omega, ha.keeps [8, 9, 10, 12, 13] _ rfl, hS⟩
    replace ha := ha.turn 55 (.bool false) rfl (congrArg Value.bool (decide_eq_false c22));replace ha := ha.turn 56 (.bool false) rfl (congrArg Value.bool (decide_eq_false c22));refine jQ [(3, 57, ptr b10 0)] ha fun a ha => ?_;refine jU (d := 58) (b := b10) (j := 0) ha (hS.blk 2 rfl) rfl fun a ha => ?_;refine jQ [(5, 59, iv (o.n : Int)), (6, 60, .bool (decide ((o.n : Int) = 11))), (7, 61, .bool (decide ((o.n : Int) = 11)))] ha fun a ha => ?_;refine jY (jJ ?_)
    by_cases c32 : (o.n : Int) = 11
    ·
     refine jG ha rfl (decide_eq_true c32) ?_;refine wp_seq (jX [0, 1] (jQ [(0, 62, ptr g1_1 0)] ha fun a ha => ?_));refine jZ (qH g1_1 0 (iv 1) 0 ha hS rfl rfl fun w a hS ha => ?_);refine jY (jJ (jX [0, 1, 2] (jZ (qJ 63 [] 3 (fun b => .slice (some ⟨b, 0, none⟩) 0 0) ha hS fun b33 w a hb34 hS ha => ?_))));refine jQ [(1, 64, ptr g1_1 2)] ha fun a ha => ?_;refine jZ (qH g1_1 2 (.slice (some ⟨b33, 0, none⟩) 0 0) 1 ha hS rfl rfl fun w a hS ha => ?_);refine jY (jJ (jX [0, 1, 2, 3, 4, 5, 6] (jQ [(0, 65, ptr b10 0)] ha fun a ha => ?_)));refine jU (d := 66) (b := b10) (j := 0) ha (hS.blk 3 rfl) rfl fun a ha => ?_;refine xG 67 ha (hS.blk 1 rfl) fun a ha => ?_;refine jZ (qJ 68 [iv 1, iv (((v.tmod 100) + 100).tmod 100), .slice (some ⟨b33, 0, none⟩) 0 0] 71 (fun b => .slice (some ⟨b, 0, none⟩) 1 1) ha hS fun b35 w a hb36 hS ha => ?_);refine jZ (o_ap 69 7 0 (encN (us ++ [⟨1, ((v.tmod 100) + 100).tmod 100, ⟨some ⟨b33, 0, none⟩, 0, 0⟩, []⟩])) ha hS rfl rfl (by rw [encN_length]; simp only [List.length_cons, List.length_nil]; omega) (encN_snoc _ _ _ ⟨some ⟨b33, 0, none⟩, 0, 0⟩ _) fun s40 w a hS hn41 ha => ?_);refine jQ [(5, 70, ptr b10 0)] ha fun a ha => ?_;refine jZ (qH b10 0 (.slice s40.A s40.n s40.c) 4 ha hS rfl rfl fun w a hS ha => ?_);refine jY (in_n (jJ (jX [0, 1, 2] (jQ [(0, 39, iv x)] ha fun a ha => ?_))));refine zJ 40 (x - 1) ha fun a ha => ?_;refine jQ [(2, 13, iv (x - 1))] ha fun a ha => ?_;refine jY (jJ ?_);replace hS := hS.blk0 1 1 rfl;replace hS := hS.pickN 9 [1, 8, 4, 5, 6, 7];replace hS : Sat w0 w ((jW ((us ++ [(⟨1, ((v.tmod 100) + 100).tmod 100, ⟨some ⟨b33, 0, none⟩, 0, 0⟩, []⟩ : NdS)]).map ownN)) :: (SX.blk b10 [.slice s40.A s40.n s40.c] 35) :: (SX.blk b3 [.slice none 0 0] 35) :: (RwJ oc C.reverse) :: (SX.row (.slice s40.A s40.n s40.c) 71 3 (encN (us ++ [⟨1, ((v.tmod 100) + 100).tmod 100, ⟨some ⟨b33, 0, none⟩, 0, 0⟩, []⟩]))) :: Rs) := oneN hS;replace hS := hS.pickN 5 [1, 2, 3, 4, 0];exact ⟨_, by omega, i + 1, x - 1, s40, us ++ [(⟨1, ((v.tmod 100) + 100).tmod 100, ⟨some ⟨b33, 0, none⟩, 0, 0⟩, []⟩ : NdS)], rfl, by omega, plN_next hus hv (by omega) (plN_last (by omega) rfl), by rw [List.length_append, List.length_singleton]; omega, by omega, ha.keeps [8, 9, 10, 12, 13] _ rfl, hS⟩
    refine jV ha rfl (decide_eq_false c32) ?_;refine wp_skip (jJ (jX [0, 1, 2, 3, 4, 5, 6] (jQ [(0, 65, ptr b10 0)] ha fun a ha => ?_)));refine jU (d := 66) (b := b10) (j := 0) ha (hS.blk 2 rfl) rfl fun a ha => ?_;refine xG 67 ha (hS.blk 0 rfl) fun a ha => ?_;refine jZ (qJ 68 [iv 2, iv (((v.tmod 100) + 100).tmod 100), .slice (some ⟨g1_0, 0, none⟩) 1 1] 71 (fun b => .slice (some ⟨b, 0, none⟩) 1 1) ha hS fun b42 w a hb43 hS ha => ?_);refine jZ (o_ap 69 6 0 (encN (us ++ [⟨2, ((v.tmod 100) + 100).tmod 100, ⟨some ⟨g1_0, 0, none⟩, 1, 1⟩, [(o.n : Int) + 1]⟩])) ha hS rfl rfl (by rw [encN_length]; simp only [List.length_cons, List.length_nil]; omega) (encN_snoc _ _ _ ⟨some ⟨g1_0, 0, none⟩, 1, 1⟩ _) fun s47 w a hS hn48 ha => ?_);refine jQ [(5, 70, ptr b10 0)] ha fun a ha => ?_;refine jZ (qH b10 0 (.slice s47.A s47.n s47.c) 3 ha hS rfl rfl fun w a hS ha => ?_);refine jY (in_n (jJ (jX [0, 1, 2] (jQ [(0, 39, iv x)] ha fun a ha => ?_))));refine zJ 40 (x - 1) ha fun a ha => ?_;refine jQ [(2, 13, iv (x - 1))] ha fun a ha => ?_;refine jY (jJ ?_);replace hS := litRow hS 1 1 2 rfl rfl (by decide);replace hS := hS.pickN 8 [2, 7, 3, 4, 5, 6];replace hS : Sat w0 w ((jW ((us ++ [(⟨2, ((v.tmod 100) + 100).tmod 100, ⟨some ⟨g1_0, 0, none⟩, 1, 1⟩, [(o.n : Int) + 1]⟩ : NdS)]).map ownN)) :: (SX.blk b10 [.slice s47.A s47.n s47.c] 35) :: (SX.blk b3 [.slice none 0 0] 35) :: (RwJ oc C.reverse) :: (SX.row (.slice s47.A s47.n s47.c) 71 3 (encN (us ++ [⟨2, ((v.tmod 100) + 100).tmod 100, ⟨some ⟨g1_0, 0, none⟩, 1, 1⟩, [(o.n : Int) + 1]⟩]))) :: Rs) := oneN hS;replace hS := hS.pickN 5 [1, 2, 3, 4, 0];exact ⟨_, by omega, i + 1, x - 1, s47, us ++ [(⟨2, ((v.tmod 100) + 100).tmod 100, ⟨some ⟨g1_0, 0, none⟩, 1, 1⟩, [(o.n : Int) + 1]⟩ : NdS)], rfl, by omega, plN_next hus hv (by omega) (plN_more (by omega) rfl (by omega)), by rw [List.length_append, List.length_singleton]; omega, by omega, ha.keeps [8, 9, 10, 12, 13] _ rfl, hS⟩
   refine jV ha rfl (decide_eq_false c13) ?_;refine wp_exit (yX (yX (in_x (jJ (wp_seq (jX [0, 1, 2] (xG 71 ha (hS.blk 0 rfl) fun a ha => ?_)))))));refine jZ (o_sa 1 ha (qU (t := 35) (x := 8) (y := 71)) hS fun w a hS ha => ?_);refine jQ [(2, 9, .bool true)] ha fun a ha => ?_;refine jY (jJ (wp_ret (yH ha (by kernel_rfl) (xZ (t := 8) (ty := 35) (i := 1) ha rfl hS rfl (by kernel_rfl)) (yJ (t := 9) ha rfl) ?_)));rw [hC3];exact ⟨o, us, plN_all hus (by omega), rfl, hS.pickN 5 [3, 4]⟩
  replace ha := ha.turn 32 (.bool false) rfl (congrArg Value.bool (decide_eq_false c12))
  replace ha := ha.turn 33 (.bool false) rfl (congrArg Value.bool (decide_eq_false c12))
  refine jQ [(3, 34, undef), (4, 35, undef), (5, 36, undef), (6, 37, undef), (7, 38, .bool false)] ha fun a ha => ?_
  refine jY (jJ ?_)
  refine jV ha rfl rfl ?_
  refine wp_exit (yX (yX (in_x (jJ (wp_seq (jX [0, 1, 2] (xG 71 ha (hS.blk 0 rfl) fun a ha => ?_)))))))
  refine jZ (o_sa 1 ha (qU (t := 35) (x := 8) (y := 71)) hS fun w a hS ha => ?_)
  refine jQ [(2, 9, .bool true)] ha fun a ha => ?_
  refine jY (jJ (wp_ret (yH ha (by kernel_rfl) (xZ (t := 8) (ty := 35) (i := 1) ha rfl hS rfl (by kernel_rfl)) (yJ (t := 9) ha rfl) ?_)))
  rw [hC3]
  exact ⟨o, us, plN_all hus (by omega), rfl, hS.pickN 5 [3, 4]⟩
 refine jG ha rfl (kJ c7) ?_
 refine wp_seq (jX [0, 1, 2] (jQ [(0, 25, .agg #[.slice none 0 0])] ha fun a ha => ?_))
 refine jZ (o_sa 1 ha (qU (t := 35) (x := 8) (y := 25)) hS fun w a hS ha => ?_)
 refine jQ [(2, 9, .bool false)] ha fun a ha => ?_
 refine jY (jJ (wp_ret (xQ (yH ha (by kernel_rfl) (xZ (t := 8) (ty := 35) (i := 1) ha rfl hS rfl (by kernel_rfl)) (yJ (t := 9) ha rfl) ?_))))
 rw [errP_no c7]
 exact ⟨⟨none, 0, 0⟩, [], rfl, rfl, Sat.nilRow (Sat.merge (l := []) (Sat.rest [_, _, _] hS))⟩
theorem spec_ErrorsOfRun_sat {w0 w : World} {Rs : List Asn} {s : Sl} {l : List (List ST)} {f arg fuel : Int} (hS : Sat w0 w Rs) (hr : RdP w s l) (hf : Fits l) :
  Calls Try.prog 13 #[.agg #[.slice s.A s.n s.c], iv f, iv arg, iv fuel] w (Ret fun r w' => ∃ (o : Sl) (us : List NdS), us.map plN = (errP l f arg fuel).1 ∧ r = .tuple #[.agg #[.slice o.A o.n o.c], .bool (errP l f arg fuel).2] ∧ Sat w0 w' (SX.row (.slice o.A o.n o.c) 71 3 (encN us) :: jW (us.map ownN) :: Rs)) :=
 (spec_ErrorsOfRun_satB (Sat.start w) hr hf).mono fun e w' h => by
  cases e with
  | returned r => obtain ⟨o, us, h1, h2, h3⟩ := h; exact ⟨o, us, h1, h2, hS.comp h3⟩
  | _ => exact h.elim
theorem code4 : Try.f4.body = some (Code.seq (cr Try.f4 0 false) (Code.seq (cr Try.f4 1 false) (Code.seq (cr Try.f4 2 false) (Code.seq (Code.seq (cr Try.f4 3 false) (Code.cond (Operand.tmp 24) (Code.seq (cr Try.f4 4 false) Code.ret) Code.skip)) (Code.seq (cr Try.f4 5 false) (Code.seq (cr Try.f4 6 false) (Code.seq (cr Try.f4 7 false) (Code.seq (Code.seq (cr Try.f4 8 false) (Code.cond (Operand.tmp 52) (Code.seq (cr Try.f4 9 false) Code.ret) Code.skip)) (Code.seq (Code.seq (cr Try.f4 10 true) (Code.cond (Operand.tmp 57) (Code.seq (cr Try.f4 11 false) Code.ret) Code.skip)) (Code.seq (cr Try.f4 12 false) (Code.seq (cr Try.f4 13 false) (Code.seq (Code.seq (cr Try.f4 14 false) (Code.cond (Operand.tmp 73) (Code.seq (cr Try.f4 15 false) Code.ret) Code.skip)) (Code.seq (cr Try.f4 16 false) (Code.seq (cr Try.f4 17 false) (Code.seq (cr Try.f4 18 false) (Code.seq (cr Try.f4 19 false) (Code.seq (Code.seq (cr Try.f4 20 false) (Code.cond (Operand.tmp 81) (Code.seq (cr Try.f4 21 false) Code.ret) Code.skip)) (Code.seq (Code.seq (cr Try.f4 22 false) (Code.cond (Operand.tmp 84) (Code.seq (cr Try.f4 23 false) Code.ret) Code.skip)) (Code.seq (cr Try.f4 24 false) (Code.seq (Code.seq (cr Try.f4 25 false) (Code.cond (Operand.tmp 102) (Code.seq (cr Try.f4 26 false) Code.ret) Code.skip)) (Code.seq (cr Try.f4 27 false) (Code.seq (cr Try.f4 28 false) (Code.seq (Code.seq (cr Try.f4 29 false) (Code.cond (Operand.tmp 107) (Code.seq (cr Try.f4 30 false) Code.ret) Code.skip)) (Code.seq (Code.seq (cr Try.f4 31 false) (Code.cond (Operand.tmp 110) (Code.seq (cr Try.f4 32 false) Code.ret) Code.skip)) (Code.seq (cr Try.f4 33 false) Code.ret))))))))))))))))))))))))) := by kernel_rfl
theorem law4_walk (w0 : World) (s0 : Sl) (l0 : List (List LT)) (f : Int) (arg : Int) (fuel : Int) (hr0 : RdA w0 s0 l0) :
  Calls Try.prog 4 #[.agg #[.slice s0.A s0.n s0.c], iv f, iv arg, iv fuel] w0 (Ret fun r w' => r = .bool true ∧ Below w0.heap.size w0 w') := by
 have hS : Sat w0 w0 [] := Sat.start w0
 refine enter (n := 111) Try.func4 code4 (by kernel_rfl) (Nat.le_of_ble_eq_true rfl) (fun a ha => ?_)
 replace ha : Has 111 [(0, .agg #[.slice s0.A s0.n s0.c]), (1, iv f), (2, iv arg), (3, iv fuel)] a := ha
 refine wp_seq (jX [0, 1] (jZ (qJ 4 [.slice s0.A s0.n s0.c] 31 (ptr · 0) ha hS fun b1 w a hb2 hS ha => ?_)))
 refine jQ [(1, 8, .bool false)] ha fun a ha => ?_
 refine jY (jJ (wp_seq (jX [0] (jQ [(0, 9, iv 1048576)] ha fun a ha => ?_))))
 refine jY (jJ (wp_seq (jX [0, 1, 2, 3] (xG 20 ha (hS.blk 0 rfl) fun a ha => ?_))))
 refine jQ [(1, 21, iv 1048576)] ha fun a ha => ?_
 refine jZ (qG 22 (vs := [.agg #[.slice s0.A s0.n s0.c], iv 1048576]) ha (szProgram_sat hS (hr0.sat hS) (by omega) (by omega)) fun v3 w a hp4 ha => ?_)
 obtain ⟨rfl, hS⟩ := hp4
 refine jQ [(3, 9, iv (szP l0 1048576))] ha fun a ha => ?_
 refine jY (jJ (wp_seq (wp_seq (jX [0, 1] (jQ [(0, 23, iv (szP l0 1048576)), (1, 24, .bool (decide ((szP l0 1048576) < 0)))] ha fun a ha => ?_)))))
 refine jY (jJ ?_)
 by_cases c5 : (szP l0 1048576) < 0
 ·
  refine jG ha rfl (decide_eq_true c5) ?_
  refine wp_seq (jX [0] (jQ [(0, 8, .bool true)] ha fun a ha => ?_))
  refine jY (jJ (wp_ret (xQ (qK ha (by kernel_rfl) (yJ (t := 8) ha rfl) ?_))))
  exact ⟨rfl, hS.below⟩
 have hf0 : Fits l0 := by have h8 : 0 ≤ szP l0 1048576 := (by omega); have h9 := szP_ok l0 1048576 h8; exact ⟨by omega, by omega⟩
 have htp0 := (toP_fits hf0).tot
 have hz0 := szP_ok l0 1048576 (by omega)
 refine jV ha rfl (decide_eq_false c5) ?_
 refine wp_skip (jJ (wp_seq (jX [0, 1, 2, 3, 4, 5, 6, 7, 8, 9, 10, 11] (xG 26 ha (hS.blk 0 rfl) fun a ha => ?_))))
 refine jZ (qG 27 (vs := [.agg #[.slice s0.A s0.n s0.c]]) ha (toProgram_sat hS (hr0.sat hS) hf0) fun v6 w a hp7 ha => ?_)
 obtain ⟨sp1, rfl, hS⟩ := hp7
 refine jQ [(2, 28, iv f), (3, 29, iv arg), (4, 30, iv fuel)] ha fun a ha => ?_
 refine jZ (qG 31 (vs := [.agg #[.slice sp1.A sp1.n sp1.c], iv f, iv arg, iv fuel]) ha (spec_ErrorsOfRun_sat hS (hS.rdS 0 rfl) (toP_fits hf0)) fun v8 w a hp9 ha => ?_)
 obtain ⟨o1, us1, hus1, rfl, hS⟩ := hp9
 refine jQ [(6, 25, .tuple #[.agg #[.slice o1.A o1.n o1.c], .bool ((errP (toP l0) f arg fuel).2)]), (7, 32, .agg #[.slice o1.A o1.n o1.c]), (8, 33, .bool ((errP (toP l0) f arg fuel).2))] ha fun a ha => ?_
 refine jZ (qJ 10 [.slice none 0 0] 35 (ptr · 0) ha hS fun b10 w a hb11 hS ha => ?_)
 refine jZ (o_sa 0 ha (qU (t := 35) (x := 10) (y := 32)) hS fun w a hS ha => ?_)
 refine jQ [(11, 11, .bool ((errP (toP l0) f arg fuel).2))] ha fun a ha => ?_
 refine jY (jJ (wp_seq (jX [0, 1, 2, 3] (xG 34 ha (hS.blk 4 rfl) fun a ha => ?_))))
 refine jZ (qG 35 (vs := [.agg #[.slice s0.A s0.n s0.c]]) ha (toProgram_sat hS (hr0.sat hS) hf0) fun v12 w a hp13 ha => ?_)
 obtain ⟨sp2, rfl, hS⟩ := hp13
 refine jZ (qJ 12 [.slice none 0 0] 40 (ptr · 0) ha hS fun b14 w a hb15 hS ha => ?_)
 refine jZ (o_sa 0 ha (qU (t := 40) (x := 12) (y := 35)) hS fun w a hS ha => ?_)
 refine jY (jJ (wp_seq (jX [0, 1, 2, 3, 4, 5, 6, 7, 8, 9, 10] (xG 37 ha (hS.blk 0 rfl) fun a ha => ?_))))
 refine jQ [(1, 38, iv f), (2, 39, iv arg), (3, 40, iv fuel)] ha fun a ha => ?_
 refine jZ (qG 41 (vs := [.agg #[.slice sp2.A sp2.n sp2.c], iv f, iv arg, iv fuel]) ha (impl_ErrorsOfRun_sat hS (hS.rdS 1 rfl) (toP_fits hf0)) fun v16 w a hp17 ha => ?_)
 obtain ⟨o2, us2, hus2, rfl, hS⟩ := hp17
 refine jQ [(5, 36, .tuple #[.agg #[.slice o2.A o2.n o2.c], .bool ((errP (toP l0) f arg fuel).2)]), (6, 42, .agg #[.slice o2.A o2.n o2.c]), (7, 43, .bool ((errP (toP l0) f arg fuel).2))] ha fun a ha => ?_
 refine jZ (qJ 13 [.slice none 0 0] 35 (ptr · 0) ha hS fun b18 w a hb19 hS ha => ?_)
 refine jZ (o_sa 0 ha (qU (t := 35) (x := 13) (y := 42)) hS fun w a hS ha => ?_)
 refine jQ [(10, 14, .bool ((errP (toP l0) f arg fuel).2))] ha fun a ha => ?_
 refine jY ?_
 replace ha := ha.as [(1, iv f), (2, iv arg), (3, iv fuel), (4, ptr b1 0), (8, .bool false), (10, ptr b10 0), (11, .bool ((errP (toP l0) f arg fuel).2)), (12, ptr b14 0), (13, ptr b18 0), (14, .bool ((errP (toP l0) f arg fuel).2))] rfl
 refine jJ (wp_seq (wp_seq (jX [0, 1, 2, 3, 4, 5, 6, 7, 8] (xG 44 ha (hS.blk 0 rfl) fun a ha => ?_))))
 refine xG 45 ha (hS.blk 5 rfl) fun a ha => ?_
 replace hS := hS.pickN 10 [1, 2, 6, 7, 0, 3, 4, 5, 8, 9]
 refine jZ (qG 46 (vs := [.agg #[.slice o2.A o2.n o2.c], .agg #[.slice o1.A o1.n o1.c]]) ha (eqErr_sat hS (hus2.trans hus1.symm) (errP_few hus2).1) fun v20 w a hp21 ha => ?_)
 obtain ⟨rfl, hS⟩ := hp21
 refine jQ [(3, 47, .bool false), (4, 48, .bool false), (5, 49, .bool ((errP (toP l0) f arg fuel).2)), (6, 50, .bool ((errP (toP l0) f arg fuel).2))] ha fun a ha => ?_
 refine xU (.bool false) ha ((qZ (v := .bool (!(((errP (toP l0) f arg fuel).2) == ((errP (toP l0) f arg fuel).2)))) ha (AtG.here (gd := 48) ⟨(by kernel_rfl : ((qQ Try.f4 8)[7]?).map spec = some ((Op.binOp BinOp.neq 4 (Operand.tmp 49) (Operand.tmp 50) 4), some 51, 4, some (4, false))), by kernel_rfl⟩ ha rfl) (by kernel_rfl) (fun _ => by kernel_rfl)).as (by simp)) fun a ha => ?_
 refine jQ [(8, 52, .bool false)] ha fun a ha => ?_
 refine jY (jJ ?_)
 refine jV ha rfl rfl ?_
 refine wp_skip (jJ (wp_seq (wp_seq (xY 5 5 (hS.pickN 10 [4, 5, 7, 9]) hS fun w hS => ?_))))
 refine yW 0 53 ha (hS.pickN 10 [4, 5, 7, 9]) (fun _ hw => hw.blk 1 rfl) fun a ha => ?_
 refine yW 1 54 ha (hS.pickN 10 [4, 5, 7, 9]) (fun _ hw => hw.blk 3 rfl) fun a ha => ?_
 refine jH 2 (qG 55 (vs := [.agg #[.slice s0.A s0.n s0.c]]) ha (toProgram_sat hS (hr0.sat hS) hf0) fun v22 w a hp23 ha => ?_)
 obtain ⟨sp4, rfl, hS⟩ := hp23
 refine ⟨.inr (hS.pickN 11 [5, 6, 8, 10]), ?_⟩
 refine jH 3 (qG 56 (vs := [.agg #[.slice sp2.A sp2.n sp2.c], .agg #[.slice sp4.A sp4.n sp4.c]]) ha (eqP_sat hS (hS.rdS 7 rfl) (hS.rdS 0 rfl) (toP_fits hf0)) fun v24 w a hp25 ha => ?_)
 obtain ⟨rfl, hS⟩ := hp25
 refine ⟨.inr (hS.pickN 11 [5, 6, 8, 10]), ?_⟩
 refine jK (k := 0) [(4, 57, .bool false)] ha (.inr (hS.pickN 11 [5, 6, 8, 10])) fun a ha => ?_
 refine xX (jJ ?_)
 refine jV ha rfl rfl ?_
 refine wp_skip (jJ (wp_seq (jX [0] (jQ [(0, 15, iv 1)] ha fun a ha => ?_))))
 refine jY (jJ (wp_seq (jX [0, 1, 2, 3] (xG 58 ha (hS.blk 6 rfl) fun a ha => ?_))))
 refine jQ [(1, 59, iv 1)] ha fun a ha => ?_
 replace hS := hS.pickN 11 [7, 0, 1, 2, 3, 4, 5, 6, 8, 9, 10]
 refine jZ (qG 60 (vs := [.agg #[.slice sp2.A sp2.n sp2.c], iv 1]) ha (markProgram_sat hS (toP_fits hf0) (by omega) (by omega)) fun v26 w a hp27 ha => ?_)
 obtain ⟨rfl, hS⟩ := hp27
 refine jQ [(3, 15, iv (1 + 3 * (tot (toP l0) : Int)))] ha fun a ha => ?_
 refine jY ?_
 replace ha := ha.as [(1, iv f), (2, iv arg), (3, iv fuel), (4, ptr b1 0), (8, .bool false), (10, ptr b10 0), (11, .bool ((errP (toP l0) f arg fuel).2)), (13, ptr b18 0), (14, .bool ((errP (toP l0) f arg fuel).2)), (15, iv (1 + 3 * (tot (toP l0) : Int)))] rfl
 refine jJ (wp_seq (wp_seq (jX [0, 1, 2, 3, 4, 5, 6, 7, 8, 9, 10, 11, 12] (jQ [(0, 61, iv (1 + 3 * (tot (toP l0) : Int)))] ha fun a ha => ?_))))
 refine xU (.bool false) ha ((qZ (v := .bool (decide (1 + 3 * (tot (toP l0) : Int) < 0))) ha (zW (op := (Op.binOp BinOp.lss 3 (Operand.tmp 61) (Operand.const (Value.int IntKind.i64 0)) 3)) (d := some 62) (ty := 4)) (by kernel_rfl) (fun _ => by kernel_rfl)).as (by rw [decide_eq_false (by omega)])) fun a ha => ?_
 refine jQ [(2, 63, .bool false)] ha fun a ha => ?_
 refine xG 64 ha (hS.blk 6 rfl) fun a ha => ?_
 refine xG 65 ha (hS.blk 8 rfl) fun a ha => ?_
 replace hS := hS.pickN 11 [2, 3, 4, 5, 0, 1, 6, 7, 8, 9, 10]
 refine jZ (qG 66 (vs := [.agg #[.slice o2.A o2.n o2.c], .agg #[.slice o1.A o1.n o1.c]]) ha (eqErr_sat hS (hus2.trans hus1.symm) (errP_few hus2).1) fun v28 w a hp29 ha => ?_)
 obtain ⟨rfl, hS⟩ := hp29
 refine jQ [(6, 67, .bool false), (7, 68, .bool false), (8, 69, .bool false), (9, 70, .bool ((errP (toP l0) f arg fuel).2)), (10, 71, .bool ((errP (toP l0) f arg fuel).2))] ha fun a ha => ?_
 refine xU (.bool false) ha ((qZ (v := .bool (!(((errP (toP l0) f arg fuel).2) == ((errP (toP l0) f arg fuel).2)))) ha (AtG.here (gd := 69) ⟨(by kernel_rfl : ((qQ Try.f4 14)[11]?).map spec = some ((Op.binOp BinOp.neq 4 (Operand.tmp 70) (Operand.tmp 71) 4), some 72, 4, some (8, false))), by kernel_rfl⟩ ha rfl) (by kernel_rfl) (fun _ => by kernel_rfl)).as (by simp)) fun a ha => ?_
 refine jQ [(12, 73, .bool false)] ha fun a ha => ?_
 refine jY (jJ ?_)
 refine jV ha rfl rfl ?_
 refine wp_skip (jJ (wp_seq (jX [0] (jQ [(0, 16, iv 1)] ha fun a ha => ?_))))
 refine jY (jJ (wp_seq (jX [0, 1, 2, 3] (xG 74 ha (hS.blk 6 rfl) fun a ha => ?_))))
 refine jQ [(1, 75, iv 1)] ha fun a ha => ?_
 replace hS : Sat w0 w ((SX.row (.slice o2.A o2.n o2.c) 71 3 (encN us2)) :: (jW (us2.map ownN)) :: (SX.row (.slice o1.A o1.n o1.c) 71 3 (encN us1)) :: (jW (us1.map ownN)) :: (prg w0.heap.size sp2 (mkSS 1 (toP l0))) :: (prg w0.heap.size sp4 (toP l0)) :: (SX.blk b18 [.slice o2.A o2.n o2.c] 35) :: (SX.blk b14 [.slice sp2.A sp2.n sp2.c] 40) :: (SX.blk b10 [.slice o1.A o1.n o1.c] 35) :: (prg w0.heap.size sp1 (toP l0)) :: (SX.blk b1 [.slice s0.A s0.n s0.c] 31) :: []) := hS
 have hw9 := wdN_le (errP_few hus2).2
 refine jZ (qG 76 (vs := [.agg #[.slice o2.A o2.n o2.c], iv 1]) ha (markErr_sat (k0 := 1) hS (errP_few hus2).1 (errP_few hus2).2 (by omega)) fun v30 w a hp31 ha => ?_)
 obtain ⟨rfl, hS⟩ := hp31
 refine jQ [(3, 16, iv (1 + wdN us2))] ha fun a ha => ?_
 refine jY (jJ (wp_seq (jX [0] (jQ [(0, 17, iv 1)] ha fun a ha => ?_))))
 refine jY (jJ (wp_seq (jX [0, 1, 2, 3] (xG 77 ha (hS.blk 6 rfl) fun a ha => ?_))))
 refine jQ [(1, 78, iv 1)] ha fun a ha => ?_
 replace hS : Sat w0 w ((SX.row (.slice o2.A o2.n o2.c) 71 3 (encN (mkNs 1 us2))) :: (jW ((mkNs 1 us2).map ownN)) :: (SX.row (.slice o1.A o1.n o1.c) 71 3 (encN us1)) :: (jW (us1.map ownN)) :: (prg w0.heap.size sp2 (mkSS 1 (toP l0))) :: (prg w0.heap.size sp4 (toP l0)) :: (SX.blk b18 [.slice o2.A o2.n o2.c] 35) :: (SX.blk b14 [.slice sp2.A sp2.n sp2.c] 40) :: (SX.blk b10 [.slice o1.A o1.n o1.c] 35) :: (prg w0.heap.size sp1 (toP l0)) :: (SX.blk b1 [.slice s0.A s0.n s0.c] 31) :: []) := hS
 refine jZ (qG 79 (vs := [.agg #[.slice o2.A o2.n o2.c], iv 1]) ha (heldErr_sat (k0 := 1) hS (errP_few hus2).1 (errP_few hus2).2 (by omega)) fun v32 w a hp33 ha => ?_)
 obtain ⟨rfl, hS⟩ := hp33
 refine jQ [(3, 17, iv (1 + wdN us2))] ha fun a ha => ?_
 refine jY ?_
 replace ha := ha.as [(1, iv f), (2, iv arg), (3, iv fuel), (4, ptr b1 0), (8, .bool false), (10, ptr b10 0), (11, .bool ((errP (toP l0) f arg fuel).2)), (13, ptr b18 0), (16, iv (1 + wdN us2)), (17, iv (1 + wdN us2))] rfl
 refine jJ (wp_seq (wp_seq (jX [0, 1] (jQ [(0, 80, iv (1 + wdN us2))] ha fun a ha => ?_))))
 refine xU (.bool false) ha ((qZ (v := .bool (decide (1 + wdN us2 < 0))) ha (zW (op := (Op.binOp BinOp.lss 3 (Operand.tmp 80) (Operand.const (Value.int IntKind.i64 0)) 3)) (d := some 81) (ty := 4)) (by kernel_rfl) (fun _ => by kernel_rfl)).as (by rw [decide_eq_false (by omega)])) fun a ha => ?_
 refine jY (jJ ?_)
 refine jV ha rfl rfl ?_
 refine wp_skip (jJ (wp_seq (wp_seq (jX [0, 1, 2] (jQ [(0, 82, iv (1 + wdN us2)), (1, 83, iv (1 + wdN us2))] ha fun a ha => ?_)))))
 refine xU (.bool false) ha ((qZ (v := .bool (!(decide (1 + wdN us2 = 1 + wdN us2)))) ha (zW (op := (Op.binOp BinOp.neq 3 (Operand.tmp 82) (Operand.tmp 83) 3)) (d := some 84) (ty := 4)) (by kernel_rfl) (fun _ => by kernel_rfl)).as (by simp)) fun a ha => ?_
 refine jY (jJ ?_)
 refine jV ha rfl rfl ?_
 refine wp_skip (jJ (wp_seq (jX [0, 1, 2, 3, 4, 5, 6, 7, 8, 9, 10, 11] (xG 86 ha (hS.blk 10 rfl) fun a ha => ?_))))
 refine jZ (qG 87 (vs := [.agg #[.slice s0.A s0.n s0.c]]) ha (toProgram_sat hS (hr0.sat hS) hf0) fun v34 w a hp35 ha => ?_)
 obtain ⟨sp5, rfl, hS⟩ := hp35
 refine jQ [(2, 88, iv f), (3, 89, iv arg), (4, 90, iv fuel)] ha fun a ha => ?_
 refine jZ (qG 91 (vs := [.agg #[.slice sp5.A sp5.n sp5.c], iv f, iv arg, iv fuel]) ha (impl_ErrorsOfRun_sat hS (hS.rdS 0 rfl) (toP_fits hf0)) fun v36 w a hp37 ha => ?_)
 obtain ⟨o3, us3, hus3, rfl, hS⟩ := hp37
 refine jQ [(6, 85, .tuple #[.agg #[.slice o3.A o3.n o3.c], .bool ((errP (toP l0) f arg fuel).2)]), (7, 92, .agg #[.slice o3.A o3.n o3.c]), (8, 93, .bool ((errP (toP l0) f arg fuel).2))] ha fun a ha => ?_
 refine jZ (qJ 18 [.slice none 0 0] 35 (ptr · 0) ha hS fun b38 w a hb39 hS ha => ?_)
 refine jZ (o_sa 0 ha (qU (t := 35) (x := 18) (y := 92)) hS fun w a hS ha => ?_)
 refine jQ [(11, 19, .bool ((errP (toP l0) f arg fuel).2))] ha fun a ha => ?_
 refine jY ?_
 replace ha := ha.as [(8, .bool false), (10, ptr b10 0), (11, .bool ((errP (toP l0) f arg fuel).2)), (13, ptr b18 0), (16, iv (1 + wdN us2)), (17, iv (1 + wdN us2)), (18, ptr b38 0), (19, .bool ((errP (toP l0) f arg fuel).2))] rfl
 refine jJ (wp_seq (wp_seq (jX [0, 1, 2, 3, 4, 5, 6, 7, 8] (xG 94 ha (hS.blk 0 rfl) fun a ha => ?_))))
 refine xG 95 ha (hS.blk 12 rfl) fun a ha => ?_
 replace hS := hS.pickN 15 [1, 2, 6, 7, 0, 3, 4, 5, 8, 9, 10, 11, 12, 13, 14]
 refine jZ (qG 96 (vs := [.agg #[.slice o3.A o3.n o3.c], .agg #[.slice o1.A o1.n o1.c]]) ha (eqErr_sat hS (hus3.trans hus1.symm) (errP_few hus3).1) fun v40 w a hp41 ha => ?_)
 obtain ⟨rfl, hS⟩ := hp41
 refine jQ [(3, 97, .bool false), (4, 98, .bool false), (5, 99, .bool ((errP (toP l0) f arg fuel).2)), (6, 100, .bool ((errP (toP l0) f arg fuel).2))] ha fun a ha => ?_
 refine xU (.bool false) ha ((qZ (v := .bool (!(((errP (toP l0) f arg fuel).2) == ((errP (toP l0) f arg fuel).2)))) ha (AtG.here (gd := 98) ⟨(by kernel_rfl : ((qQ Try.f4 25)[7]?).map spec = some ((Op.binOp BinOp.neq 4 (Operand.tmp 99) (Operand.tmp 100) 4), some 101, 4, some (4, false))), by kernel_rfl⟩ ha rfl) (by kernel_rfl) (fun _ => by kernel_rfl)).as (by simp)) fun a ha => ?_
 refine jQ [(8, 102, .bool false)] ha fun a ha => ?_
 refine jY (jJ ?_)
 refine jV ha rfl rfl ?_
 refine wp_skip (jJ (wp_seq (jX [0] (jQ [(0, 17, iv 1)] ha fun a ha => ?_))))
 refine jY (jJ (wp_seq (jX [0, 1, 2, 3] (xG 103 ha (hS.blk 10 rfl) fun a ha => ?_))))
 refine jQ [(1, 104, iv 1)] ha fun a ha => ?_
 replace hS := hS.pickN 15 [6, 7, 0, 1, 2, 3, 4, 5, 8, 9, 10, 11, 12, 13, 14]
 refine jZ (qG 105 (vs := [.agg #[.slice o2.A o2.n o2.c], iv 1]) ha (heldErr_sat (k0 := 1) hS (errP_few hus2).1 (errP_few hus2).2 (by omega)) fun v42 w a hp43 ha => ?_)
 obtain ⟨rfl, hS⟩ := hp43
 refine jQ [(3, 17, iv (1 + wdN us2))] ha fun a ha => ?_
 refine jY ?_
 replace ha := ha.as [(8, .bool false), (16, iv (1 + wdN us2)), (17, iv (1 + wdN us2))] rfl
 refine jJ (wp_seq (wp_seq (jX [0, 1] (jQ [(0, 106, iv (1 + wdN us2))] ha fun a ha => ?_))))
 refine xU (.bool false) ha ((qZ (v := .bool (decide (1 + wdN us2 < 0))) ha (zW (op := (Op.binOp BinOp.lss 3 (Operand.tmp 106) (Operand.const (Value.int IntKind.i64 0)) 3)) (d := some 107) (ty := 4)) (by kernel_rfl) (fun _ => by kernel_rfl)).as (by rw [decide_eq_false (by omega)])) fun a ha => ?_
 refine jY (jJ ?_)
 refine jV ha rfl rfl ?_
 refine wp_skip (jJ (wp_seq (wp_seq (jX [0, 1, 2] (jQ [(0, 108, iv (1 + wdN us2)), (1, 109, iv (1 + wdN us2))] ha fun a ha => ?_)))))
 refine xU (.bool false) ha ((qZ (v := .bool (!(decide (1 + wdN us2 = 1 + wdN us2)))) ha (zW (op := (Op.binOp BinOp.neq 3 (Operand.tmp 108) (Operand.tmp 109) 3)) (d := some 110) (ty := 4)) (by kernel_rfl) (fun _ => by kernel_rfl)).as (by simp)) fun a ha => ?_
 refine jY (jJ ?_)
 refine jV ha rfl rfl ?_
 refine wp_skip (jJ (wp_seq (jX [0] (jQ [(0, 8, .bool true)] ha fun a ha => ?_))))
 refine jY (jJ (wp_ret (qK ha (by kernel_rfl) (yJ (t := 8) ha rfl) ?_)))
 exact ⟨rfl, hS.below⟩
end Go.Proofs.Ytcbijhgepdedpaa.G
