/- What the claim FnExactMendEntries rests on, part 22 of 23; the last part proves it: for every input the law answers true, and its arguments read behind the call as before it. No condition. -/
import Derived.Test.YtbgfiiehjaghiaaQMendEntries15
import Derived.Test.YtbgfiiehjaghiaaQMendEntries18
import Derived.Test.YtbgfiiehjaghiaaQMendEntries19
import Derived.Test.YtbgfiiehjaghiaaQMendEntries20
namespace Go.Proofs.YtbgfiiehjaghiaaW.PrintLast
end Go.Proofs.YtbgfiiehjaghiaaW.PrintLast
namespace Go.Proofs.YtbgfiiehjaghiaaW.PrintMore
end Go.Proofs.YtbgfiiehjaghiaaW.PrintMore
set_option linter.unusedSimpArgs false
set_option linter.unusedVariables false
set_option maxRecDepth 20000
set_option maxHeartbeats 1000000
namespace Go.Proofs.Ytbgfiiehjaghiaa.G
open Go.RowKit Go.Proofs.Ytbgfiiehjaghiaa.SX Go.Proofs.YtbgfiiehjaghiaaW.PrintWords Go.Proofs.YtbgfiiehjaghiaaW.PrintLast Go.Proofs.YtbgfiiehjaghiaaW.PrintMore
def cSl (x : Sl) : List Value := [.slice x.A x.n x.c]
def encSl (l : List Sl) : List Value := l.flatMap cSl
theorem cSl_len (x : Sl) : (cSl x).length = 1 := rfl
theorem encSl_length (l : List Sl) : (encSl l).length = l.length * 1 := flat_length cSl_len l
theorem encS_Sl (l : List Sl) : SX.encS l = encSl l := by
 induction l with
 | nil => rfl
 | cons x l ih => show Value.slice x.A x.n x.c :: SX.encS l = Value.slice x.A x.n x.c :: encSl l; rw [ih]
theorem books_at {w0 w : World} {Rs : List Asn} {se : Sl} {es : List Int} (hS : Sat w0 w Rs) (hre : RdI w se es) (he : entriesB es = true) :
  Calls Try.prog 86 #[.slice se.A se.n se.c] w (Ret fun r w' => ∃ (v5 v6 : Sl) (outs : List Sl) (us : List (Sl × List Int)), r = .tuple #[.slice v5.A v5.n v5.c, .slice v6.A v6.n v6.c] ∧ (outs.length = es.length ∧ ∀ n, n + 1 = es.length → ∃ z, outs[n]? = some z ∧ (z, bkLeft es) ∈ us) ∧ Sat w0 w' (SX.row (.slice v5.A v5.n v5.c) 37 1 (encSl outs) :: SX.row (.slice v6.A v6.n v6.c) 3 1 (SX.encI (bkFaults 0 [] es)) :: rowsI 3 us :: Rs)) := by
 obtain ⟨h1, h2⟩ := entries_at he
 refine (books_sat w se es hre h1 h2).mono fun e w' h => ?_
 cases e with
 | returned r =>
  obtain ⟨v5, v6, outs, outl, us, rfl, ⟨h3, h4⟩, rfl, h5⟩ := h
  rw [encS_Sl] at h5
  rw [bkOpens_len] at h3
  refine ⟨v5, v6, outs, us, rfl, ⟨h3, fun n hn => ?_⟩, hS.comp h5⟩
  have hz : n < outs.length := by omega
  exact ⟨outs[n], List.getElem?_eq_getElem hz, h4 _ (List.mem_of_getElem? (i := n) (by rw [List.getElem?_zip_eq_some]; exact ⟨List.getElem?_eq_getElem hz, bkLeft_at hn⟩))⟩
 | _ => exact h.elim
theorem read_at {w0 w : World} {Rs : List Asn} {se : Sl} {es : List Int} (hS : Sat w0 w Rs) (hre : RdI w se es) (he : entriesB es = true) :
  Calls Try.prog 83 #[.slice se.A se.n se.c] w (Ret fun r w' => ∃ (v4 v5 : Sl), r = .tuple #[.slice v4.A v4.n v4.c, .slice v5.A v5.n v5.c] ∧ Sat w0 w' (SX.row (.slice v4.A v4.n v4.c) 3 1 (SX.encI (bkLeft es)) :: SX.row (.slice v5.A v5.n v5.c) 3 1 (SX.encI (bkFaults 0 [] es)) :: Rs)) := by
 obtain ⟨h1, h2⟩ := entries_at he
 refine (read_sat w se es hre h1 h2).mono fun e w' h => ?_
 cases e with
 | returned r => obtain ⟨v4, v5, rfl, h3⟩ := h; exact ⟨v4, v5, rfl, hS.comp h3⟩
 | _ => exact h.elim
theorem code89 : Try.f89.body = some (Code.seq (cr Try.f89 0 false) (Code.seq (cr Try.f89 1 false) (Code.seq (Code.seq (cr Try.f89 2 false) (Code.cond (Operand.tmp 12) (Code.seq (cr Try.f89 3 false) Code.ret) Code.skip)) (Code.seq (cr Try.f89 4 false) Code.ret)))) := by kernel_rfl
theorem left_sat0 {w0 : World} {se : Sl} {es : List Int} (hre : RdI w0 se es) (he : entriesB es = true) :
  Calls Try.prog 89 #[.slice se.A se.n se.c] w0 (Ret fun r w' => ∃ o : Sl, r = .slice o.A o.n o.c ∧ Sat w0 w' (rI o (bkLeft es) :: [])) := by
 have hS : Sat w0 w0 [] := Sat.start w0
 have hel := hre.len
 have h60 := (entries_at he).1
 refine enter (n := 20) Try.func89 code89 (by kernel_rfl) (Nat.le_of_ble_eq_true rfl) (fun a ha => ?_)
 replace ha : Has 20 [(0, .slice se.A se.n se.c)] a := ha
 refine wp_seq (jQ [0] (jX [(0, 2, .slice none 0 0)] ha fun a ha => ?_))
 refine jY (jJ (wp_seq (jQ [0, 1, 2, 3, 4, 5, 6] (jX [(0, 6, .slice se.A se.n se.c)] ha fun a ha => ?_))))
 refine jZ (jG 7 (vs := [.slice se.A se.n se.c]) ha (books_at hS (hre.sat hS) he) fun v1 w a hp2 ha => ?_)
 obtain ⟨v5, v6, outs, us, rfl, hou, hS⟩ := hp2
 have hv5 := hS.rowL (s := v5) (enc := cSl) 0 cSl_len (by decide) rfl
 have hv6 := (hS.rdRow (s := v6) 1 rfl).len
 refine jX [(2, 5, .tuple #[.slice v5.A v5.n v5.c, .slice v6.A v6.n v6.c]), (3, 8, .slice v5.A v5.n v5.c), (4, 9, .slice v6.A v6.n v6.c), (5, 3, .slice v5.A v5.n v5.c), (6, 4, .slice v6.A v6.n v6.c)] ha fun a ha => ?_
 refine jY (jJ (wp_seq (wp_seq (jQ [0, 1, 2] (jX [(0, 10, .slice v5.A v5.n v5.c), (1, 11, iv (v5.n : Int)), (2, 12, .bool (decide ((v5.n : Int) = 0)))] ha fun a ha => ?_)))))
 refine jY (jJ ?_)
 by_cases c3 : (v5.n : Int) = 0
 ·
  refine jW ha rfl (decide_eq_true c3) ?_
  refine wp_seq (jQ [0] (jX [(0, 2, .slice none 0 0)] ha fun a ha => ?_))
  refine jY (jJ (wp_ret (qK (jV ha (by kernel_rfl) (qX (t := 2) ha rfl) ?_))))
  have hE : bkLeft es = [] := bkLeft_nil (by omega)
  rw [hE]
  exact ⟨⟨none, 0, 0⟩, rfl, Sat.nilRow (Sat.rest [_, _, _] hS)⟩
 obtain ⟨n9, hn9⟩ : ∃ n, n + 1 = es.length := ⟨es.length - 1, by omega⟩
 obtain ⟨z9, hz9, hm9⟩ := hou.2 n9 hn9
 refine jK ha rfl (decide_eq_false c3) ?_
 refine wp_skip (jJ (wp_seq (jQ [0, 1, 2, 3, 4, 5, 6, 7] (jX [(0, 13, .slice v5.A v5.n v5.c), (1, 14, .slice v5.A v5.n v5.c), (2, 15, iv (v5.n : Int))] ha fun a ha => ?_))))
 refine qZ 16 ((v5.n : Int) - 1) ha fun a ha => ?_
 refine jU (.pointer (some ⟨bk v5, n9 * 1, none⟩)) ha (xK (s := v5) (el := 37) (sz := 1) (j := n9) ha (qV (t := 89) (x := 13) (y := 16) (d := 17)) rfl rfl (by kernel_rfl) (by kernel_rfl) (hS.rowA (s := v5) 0 rfl (by have := (List.getElem?_eq_some_iff.1 hz9).1; rw [encSl_length]; omega)) ((show (v5.n : Int) - 1 = (n9 : Int) by omega)) (by have h9 := hS.rowL (s := v5) (enc := cSl) 0 cSl_len (by decide) rfl; have := (List.getElem?_eq_some_iff.1 hz9).1; omega)) fun a ha => ?_
 refine jU (.slice z9.A z9.n z9.c) ha (qQ ha (qU (t := 37) (x := 17) (d := 18) (ty := 37)) rfl (by kernel_rfl) (fun w' hw => by rw [hw]; exact (hS.rdC (s := v5) 0 rfl).cells _ _ ((flat_get (enc := cSl) (o := 0) cSl_len hz9 (by decide)).trans rfl))) fun a ha => ?_
 refine jZ (jG 19 (vs := [.slice z9.A z9.n z9.c]) ha (clone_sat hS (hS.rdRows (s := z9) (l := bkLeft es) 2 rfl hm9) (Nat.le_trans (bkLeft_len _) (Nat.le_trans (entries_at he).1 (by decide)))) fun v4 w a hp5 ha => ?_)
 obtain ⟨oc, rfl, hS⟩ := hp5
 refine jX [(7, 2, .slice oc.A oc.n oc.c)] ha fun a ha => ?_
 refine jY ?_
 replace ha := ha.as [(2, .slice oc.A oc.n oc.c)] rfl
 refine jJ (wp_ret (jV ha (by kernel_rfl) (qX (t := 2) ha rfl) ?_))
 replace hS := hS.pickN 4 [0]
 exact ⟨oc, rfl, hS⟩
theorem left_sat {w0 w : World} {Rs : List Asn} {se : Sl} {es : List Int} (hS : Sat w0 w Rs) (hre : RdI w se es) (he : entriesB es = true) :
  Calls Try.prog 89 #[.slice se.A se.n se.c] w (Ret fun r w' => ∃ o : Sl, r = .slice o.A o.n o.c ∧ Sat w0 w' (rI o (bkLeft es) :: Rs)) :=
 (left_sat0 hre he).mono fun e w' h => by
  cases e with
  | returned r => obtain ⟨o, h1, h2⟩ := h; exact ⟨o, h1, hS.comp h2⟩
  | _ => exact h.elim
theorem bkFold_mem : ∀ (l o : List Int) (x : Int), x ∈ l.foldl bkStep o → x ∈ o ∨ x ∈ l := by
  intro l
  induction l with
  | nil => intro o x h; exact .inl h
  | cons n l ih =>
    intro o x h
    rcases ih _ _ h with h1 | h1
    · unfold bkStep at h1
      split at h1
      · rcases List.mem_append.1 h1 with h2 | h2
        · exact .inl (List.mem_of_mem_erase h2)
        · exact .inr (by rw [List.mem_singleton.1 h2]; exact List.mem_cons_self)
      · exact .inl (List.mem_of_mem_erase h1)
    · exact .inr (List.mem_cons_of_mem _ h1)
theorem bkLeft_mem {l : List Int} {x : Int} (h : x ∈ bkLeft l) : x ∈ l := (bkFold_mem l [] x h).resolve_left (by simp)
def mkN (es fs : List Int) (n : Nat) : List Int := (List.range n).filterMap fun j : Nat => if fs.contains (j : Int) then none else es[j]?
theorem mkN_no {es fs : List Int} {n : Nat} (h : fs.contains (n : Int) = true) : mkN es fs (n + 1) = mkN es fs n := by
 unfold mkN; have h2 := List.contains_iff_mem.1 h; rw [List.range_succ, List.filterMap_append]; simp [h2]
theorem mkN_yes {es fs : List Int} {n : Nat} {x : Int} (hx : es[n]? = some x) (h : fs.contains (n : Int) = false) : mkN es fs (n + 1) = mkN es fs n ++ [x] := by
 unfold mkN; have h2 : ¬ (n : Int) ∈ fs := fun h3 => by rw [List.contains_iff_mem.2 h3] at h; cases h
 rw [List.range_succ, List.filterMap_append]; simp [h2, hx]
theorem mkN_len (es fs : List Int) (n : Nat) : (mkN es fs n).length ≤ n := by
 unfold mkN; exact Nat.le_trans (List.length_filterMap_le _ _) (by rw [List.length_range]; exact Nat.le_refl _)
theorem mkN_mem {es fs : List Int} {n : Nat} {x : Int} (h : x ∈ mkN es fs n) : x ∈ es := by
 unfold mkN at h
 obtain ⟨j, _, hj⟩ := List.mem_filterMap.1 h
 split at hj
 · cases hj
 · exact List.mem_of_getElem? hj
theorem mkN_ok {es fs : List Int} {n : Nat} (h : entriesB es = true) (hn : n ≤ es.length) : entriesB (mkN es fs n) = true := by
 unfold entriesB at *
 simp only [Bool.and_eq_true, decide_eq_true_eq, Bool.not_eq_true', badE, List.any_eq_false] at h ⊢
 exact ⟨by have := mkN_len es fs n; omega, fun x hx => h.2 x (mkN_mem hx)⟩
theorem ent_num {es : List Int} {x : Int} (h : entriesB es = true) (hx : x ∈ es) : -32767 ≤ x ∧ x ≤ 32767 := by
 unfold entriesB at h
 simp only [Bool.and_eq_true, decide_eq_true_eq, Bool.not_eq_true', badE, List.any_eq_false] at h
 have := h.2 x hx
 simpa [entryB] using this
def ngN (o : List Int) (j : Nat) : List Int := (bwd o j).map fun q => -q.2
theorem ngN_len (o : List Int) (j : Nat) : (ngN o j).length = j := by unfold ngN; rw [List.length_map, bwd_length]
theorem ngN_next {o : List Int} {j : Nat} {x : Int} (hx : o[o.length - 1 - j]? = some x) : ngN o (j + 1) = ngN o j ++ [-x] := by
 unfold ngN; rw [bwd_succ, List.map_append, List.getD_eq_getElem?_getD, hx]; rfl
def mendL (es : List Int) : List Int := mkN es (bkFaults 0 [] es) es.length ++ ngN (bkLeft (mkN es (bkFaults 0 [] es) es.length)) (bkLeft (mkN es (bkFaults 0 [] es) es.length)).length
def mendP (es : List Int) : List Int × Bool := if entriesB es = true then (if (mendL es).length ≤ 60 then (mendL es, true) else ([], false)) else ([], false)
theorem mendP_no {es : List Int} (h : entriesB es = false) : mendP es = ([], false) := by unfold mendP; rw [h]; rfl
theorem mendP_at {es : List Int} (h : entriesB es = true) (h2 : (mendL es).length ≤ 60) : mendP es = (mendL es, true) := by unfold mendP; rw [if_pos h, if_pos h2]
theorem mendP_much {es : List Int} (h : entriesB es = true) (h2 : ¬ (mendL es).length ≤ 60) : mendP es = ([], false) := by unfold mendP; rw [if_pos h, if_neg h2]
theorem mendP_len (es : List Int) : (mendP es).1.length ≤ 1000000 := by
  unfold mendP
  split
  · split
    · dsimp only; omega
    · exact Nat.zero_le _
  · exact Nat.zero_le _
theorem code87 : Try.f87.body = some (Code.seq (cr Try.f87 0 false) (Code.seq (cr Try.f87 1 false) Code.ret)) := by kernel_rfl
theorem bcont_sat0 {w0 : World} {se : Sl} {es : List Int} {x : Int} (hre : RdI w0 se es) :
  Calls Try.prog 87 #[.slice se.A se.n se.c, .int .i64 x] w0 (Ret fun r w' => r = .bool (es.contains x) ∧ Sat w0 w' []) := by
 have hS : Sat w0 w0 [] := Sat.start w0
 have hxx := idxI_le es x
 have hbig := hre.big
 refine enter (n := 9) Try.func87 code87 (by kernel_rfl) (Nat.le_of_ble_eq_true rfl) (fun a ha => ?_)
 replace ha : Has 9 [(0, .slice se.A se.n se.c), (1, iv x)] a := ha
 refine wp_seq (jQ [0] (jX [(0, 4, .bool false)] ha fun a ha => ?_))
 refine jY (jJ (wp_seq (jQ [0, 1, 2, 3, 4] (jX [(0, 5, .slice se.A se.n se.c), (1, 6, iv x)] ha fun a ha => ?_))))
 refine jZ (jG 7 (vs := [.slice se.A se.n se.c, iv x]) ha (bidx_sat hS (hre.sat hS)) fun v1 w a hp2 ha => ?_)
 obtain ⟨rfl, hS⟩ := hp2
 refine jX [(3, 8, .bool (decide ((idxI es x) ≥ 0))), (4, 4, .bool (decide ((idxI es x) ≥ 0)))] ha fun a ha => ?_
 refine jY (jJ (wp_ret (jV ha (by kernel_rfl) (qX (t := 4) ha rfl) ?_)))
 have hE : es.contains x = decide ((idxI es x) ≥ 0) := by rw [Bool.eq_iff_iff, List.contains_iff_mem, decide_eq_true_iff]; exact idxI_mem.symm
 rw [hE]
 exact ⟨rfl, hS⟩
theorem bcont_sat {w0 w : World} {Rs : List Asn} {s : Sl} {l : List Int} (hS : Sat w0 w Rs) (hr : RdI w s l) (x : Int) :
  Calls Try.prog 87 #[.slice s.A s.n s.c, .int .i64 x] w (Ret fun r w' => r = .bool (l.contains x) ∧ Sat w0 w' Rs) := lift0 hS (bcont_sat0 hr)
theorem code88 : Try.f88.body = some (Code.seq (cr Try.f88 0 false) (Code.seq (cr Try.f88 1 false) Code.ret)) := by kernel_rfl
theorem backw_sat {w0 w : World} {Rs : List Asn} {o : Sl} (hS : Sat w0 w Rs) :
  Calls Try.prog 88 #[.slice o.A o.n o.c] w (Ret fun r w' => ∃ b9 : Nat, r = .func (.func 122) #[] #[ptr b9 0] ∧ Sat w0 w' (SX.blk b9 [.slice o.A o.n o.c] 37 :: Rs)) := by
 refine enter (n := 4) Try.func88 code88 (by kernel_rfl) (Nat.le_of_ble_eq_true rfl) (fun a ha => ?_)
 replace ha : Has 4 [(0, .slice o.A o.n o.c)] a := ha
 refine wp_seq (jQ [0, 1] (jZ (qY 1 [.slice o.A o.n o.c] 37 (ptr · 0) ha hS fun b1 w a hb2 hS ha => ?_)))
 refine jX [(1, 2, Value.nilFunc)] ha fun a ha => ?_
 refine jY (jJ (wp_seq (jQ [0, 1] (jX [(0, 3, .func (.func 122) #[] #[ptr b1 0]), (1, 2, .func (.func 122) #[] #[ptr b1 0])] ha fun a ha => ?_))))
 refine jY (jJ (wp_ret (jV ha (by kernel_rfl) (qX (t := 2) ha rfl) ?_)))
 exact ⟨b1, rfl, hS⟩
theorem code39 : Try.f39.body = some (Code.seq (cr Try.f39 0 false) (Code.seq (Code.seq (cr Try.f39 1 false) (Code.cond (Operand.tmp 13) (Code.seq (cr Try.f39 2 false) Code.ret) Code.skip)) (Code.seq (cr Try.f39 3 false) (Code.seq (cr Try.f39 4 false) (Code.seq (Code.seq (cr Try.f39 5 false) (Code.block 0 (Code.loop (Code.seq (cr Try.f39 6 false) (Code.seq (Code.cond (Operand.tmp 23) Code.skip (Code.exit 0)) (Code.seq (Code.block 1 (Code.seq (cr Try.f39 7 false) (Code.seq (cr Try.f39 8 false) (Code.cond (Operand.tmp 30) (cr Try.f39 9 false) Code.skip)))) (cr Try.f39 10 false))))))) (Code.seq (Code.seq (cr Try.f39 11 false) (Code.block 2 (Code.rangeFunc (Operand.tmp 38) #[39, 40] (cr Try.f39 12 false) (Code.block 3 (cr Try.f39 13 false))))) (Code.seq (Code.seq (cr Try.f39 14 false) (Code.cond (Operand.tmp 48) (Code.seq (cr Try.f39 15 false) Code.ret) Code.skip)) (Code.seq (cr Try.f39 16 false) Code.ret)))))))) := by kernel_rfl
theorem impl_MendEntries_sat0 {w0 : World} {se : Sl} {es : List Int} (hre : RdI w0 se es) :
  Calls Try.prog 39 #[.slice se.A se.n se.c] w0 (Ret fun r w' => ∃ o0 : Sl, r = .tuple #[.slice o0.A o0.n o0.c, .bool ((mendP es).2)] ∧ Sat w0 w' (SX.row (.slice o0.A o0.n o0.c) 3 1 (SX.encI ((mendP es).1)) :: [])) := by
 have hS : Sat w0 w0 [] := Sat.start w0
 have hel := hre.len
 have hbig := hre.big
 refine enterM (n := 50) Try.func39 code39 (by kernel_rfl) (Nat.le_of_ble_eq_true rfl) (fun a ha => ?_)
 replace ha : Has 50 [(0, .slice se.A se.n se.c)] a := ha
 refine wp_seq ?_
 refine jQ [0, 1] ?_
 refine jX [(0, 2, .slice none 0 0), (1, 3, .bool false)] ha fun a ha => ?_
 refine jY ?_
 refine jJ ?_
 refine wp_seq ?_
 refine wp_seq ?_
 refine jQ [0, 1, 2] ?_
 refine jX [(0, 11, .slice se.A se.n se.c)] ha fun a ha => ?_
 refine jZ (jG 12 (vs := [.slice se.A se.n se.c]) ha (arE_sat hS (hre.sat hS)) fun v1 w a hp2 ha => ?_)
 obtain ⟨rfl, hS⟩ := hp2
 refine jX [(2, 13, .bool (!((entriesB es))))] ha fun a ha => ?_
 refine jY ?_
 refine jJ ?_
 rcases Bool.eq_false_or_eq_true (entriesB es) with c3 | c3
 ·
  have he := c3
  have h60 := (entries_at he).1
  refine jK ha rfl (qG c3) ?_
  refine wp_skip ?_
  refine jJ ?_
  refine wp_seq ?_
  refine jQ [0, 1, 2, 3, 4, 5, 6] ?_
  refine jX [(0, 15, .slice se.A se.n se.c)] ha fun a ha => ?_
  refine jZ (jG 16 (vs := [.slice se.A se.n se.c]) ha (books_at hS (hre.sat hS) he) fun v4 w a hp5 ha => ?_)
  obtain ⟨v5, v6, outs, us, rfl, hou, hS⟩ := hp5
  have hv5 := hS.rowL (s := v5) (enc := cSl) 0 cSl_len (by decide) rfl
  have hv6 := (hS.rdRow (s := v6) 1 rfl).len
  refine jX [(2, 14, .tuple #[.slice v5.A v5.n v5.c, .slice v6.A v6.n v6.c]), (3, 17, .slice v5.A v5.n v5.c), (4, 18, .slice v6.A v6.n v6.c), (5, 4, .slice v5.A v5.n v5.c), (6, 5, .slice v6.A v6.n v6.c)] ha fun a ha => ?_
  refine jY ?_
  refine jJ ?_
  refine wp_seq ?_
  refine jQ [0, 1, 2] ?_
  refine jZ (qY 19 [] 3 (fun b => .slice (some ⟨b, 0, none⟩) 0 0) ha hS fun b6 w a hb7 hS ha => ?_)
  refine jZ (qY 6 [.slice none 0 0] 37 (ptr · 0) ha hS fun b8 w a hb9 hS ha => ?_)
  refine jZ (yZ b8 0 (.slice (some ⟨b6, 0, none⟩) 0 0) 0 ha hS rfl rfl fun w a hS ha => ?_)
  refine jY ?_
  refine jJ ?_
  refine wp_seq ?_
  refine wp_seq ?_
  refine jQ [0, 1, 2] ?_
  refine jX [(0, 20, .slice se.A se.n se.c), (1, 21, iv (se.n : Int)), (2, 22, iv 0)] ha fun a ha => ?_
  refine jY ?_
  refine jJ ?_
  refine wp_block ?_
  replace hS := hS.blk0 1 1 rfl
  replace hS := hS.pickN 5 [0, 3, 1]
  replace hS : Sat w0 w ((SX.blk b8 [.slice (some ⟨b6, 0, none⟩) 0 0] 37) :: (rI v6 (bkFaults 0 [] es)) :: (rI (⟨some ⟨b6, 0, none⟩, 0, 0⟩ : Sl) (mkN es (bkFaults 0 [] es) 0)) :: []) := by rw [show mkN es (bkFaults 0 [] es) 0 = [] from rfl]; exact hS
  refine wp_loop_ghost (fun n_ a_ w_ => ∃ (i : Nat) (o : Sl), n_ = es.length - i ∧ (i ≤ es.length) ∧ Has 50 [(2, .slice none 0 0), (3, .bool false), (5, .slice v6.A v6.n v6.c), (6, ptr b8 0), (20, .slice se.A se.n se.c), (21, iv (se.n : Int)), (22, iv (i : Int))] a_ ∧ Sat w0 w_ ((SX.blk b8 [.slice o.A o.n o.c] 37) :: (rI v6 (bkFaults 0 [] es)) :: (rI o (mkN es (bkFaults 0 [] es) i)) :: [])) _ ⟨0, ⟨some ⟨b6, 0, none⟩, 0, 0⟩, rfl, Nat.zero_le _, ha.keeps [2, 3, 5, 6, 20, 21, 22] _ rfl, hS⟩ ?_
  -- the loop's round
  rintro n_ a w ⟨i, o, rfl, hi, ha, hS⟩
  refine wp_seq ?_
  refine jQ [0] ?_
  refine jX [(0, 23, .bool (decide ((i : Int) < (se.n : Int))))] ha fun a ha => ?_
  refine jY ?_
  refine jJ ?_
  refine wp_seq ?_
  by_cases c10 : (i : Int) < (se.n : Int)
  ·
   have hlt : i < es.length := by omega
   obtain ⟨x9, hx9⟩ : ∃ x, es[i]? = some x := ⟨_, List.getElem?_eq_getElem hlt⟩;refine jW ha rfl (decide_eq_true c10) ?_;refine wp_skip ?_;refine jJ ?_;refine wp_seq ?_;refine wp_block ?_;refine wp_seq ?_;refine jQ [0, 1, 2, 3, 4] ?_;refine jX [(0, 24, iv (i : Int))] ha fun a ha => ?_;refine jU (.pointer (some ⟨bk se, of_ se + i * 1, none⟩)) ha (jH (el := 3) (sz := 1) (j := i) ha (qV (t := 37) (x := 20) (y := 22) (d := 25)) rfl rfl (by kernel_rfl) (by kernel_rfl) ((hre.sat hS).at_ ((List.getElem?_eq_some_iff.1 hx9).1)).1 (by rw [((hre.sat hS)).len]; exact (List.getElem?_eq_some_iff.1 hx9).1)) fun a ha => ?_;refine jU (iv x9) ha (qQ (p := ⟨bk se, of_ se + i * 1, none⟩) ha (qU (t := 3) (x := 25) (d := 26) (ty := 3)) rfl (by kernel_rfl) (fun w' hw => by rw [hw, Nat.mul_one, ← getD_of hx9]; exact ((hre.sat hS).at_ ((List.getElem?_eq_some_iff.1 hx9).1)).2)) fun a ha => ?_;refine jX [(3, 7, iv (i : Int)), (4, 8, iv x9)] ha fun a ha => ?_;refine jY ?_;refine jJ ?_;refine wp_seq ?_;refine jQ [0, 1, 2, 3] ?_;refine jX [(0, 27, .slice v6.A v6.n v6.c), (1, 28, iv (i : Int))] ha fun a ha => ?_;refine jZ (jG 29 (vs := [.slice v6.A v6.n v6.c, iv (i : Int)]) ha (bcont_sat hS (hS.rdRow (s := v6) 1 rfl) _) fun v11 w a hp12 ha => ?_);obtain ⟨rfl, hS⟩ := hp12;refine jX [(3, 30, .bool (!(((bkFaults 0 [] es).contains (i : Int)))))] ha fun a ha => ?_;refine jY ?_;refine jJ ?_
   rcases Bool.eq_false_or_eq_true ((bkFaults 0 [] es).contains (i : Int)) with c13 | c13
   ·
    refine jK ha rfl (qG c13) ?_;refine wp_skip ?_;refine in_n ?_;refine jJ ?_;refine jQ [0, 1] ?_;refine qZ 35 ((i : Int) + 1) ha fun a ha => ?_;refine jX [(1, 22, iv ((i : Int) + 1))] ha fun a ha => ?_;refine jY ?_;refine jJ ?_;replace hS : Sat w0 w ((SX.blk b8 [.slice o.A o.n o.c] 37) :: (rI v6 (bkFaults 0 [] es)) :: (rI o (mkN es (bkFaults 0 [] es) i)) :: []) := hS;replace hS : Sat w0 w ((SX.blk b8 [.slice o.A o.n o.c] 37) :: (rI v6 (bkFaults 0 [] es)) :: (rI o (mkN es (bkFaults 0 [] es) (i + 1))) :: []) := by rw [mkN_no c13]; exact hS
    exact ⟨_, by omega, i + 1, o, rfl, by omega, ha.keeps [2, 3, 5, 6, 20, 21, 22] _ rfl, hS⟩
   ·
    refine jW ha rfl (qH c13) ?_;refine jQ [0, 1, 2, 3, 4] ?_;refine yX (d := 31) (b := b8) (j := 0) ha (hS.blk 0 rfl) rfl fun a ha => ?_;refine jX [(1, 32, iv x9)] ha fun a ha => ?_;refine jZ (qY 33 [iv x9] 3 (fun b => .slice (some ⟨b, 0, none⟩) 1 1) ha hS fun b14 w a hb15 hS ha => ?_);refine jZ (o_ap 34 3 0 (SX.encI ((mkN es (bkFaults 0 [] es) i) ++ [x9])) ha hS rfl rfl (by rw [encI_length]; have := mkN_len es (bkFaults 0 [] es) i; simp only [List.length_append, List.length_cons, List.length_nil, ngN_len]; omega) (encI_snoc _ _) fun s19 w a hS hn20 ha => ?_);refine jZ (yZ b8 0 (.slice s19.A s19.n s19.c) 1 ha hS rfl rfl fun w a hS ha => ?_);refine jY ?_;refine in_n ?_;refine jJ ?_;refine jQ [0, 1] ?_;refine qZ 35 ((i : Int) + 1) ha fun a ha => ?_;refine jX [(1, 22, iv ((i : Int) + 1))] ha fun a ha => ?_;refine jY ?_;refine jJ ?_;replace hS := hS.pickN 4 [1, 2, 3];replace hS : Sat w0 w ((SX.blk b8 [.slice s19.A s19.n s19.c] 37) :: (rI v6 (bkFaults 0 [] es)) :: (rI s19 (mkN es (bkFaults 0 [] es) (i + 1))) :: []) := by rw [mkN_yes hx9 c13]; exact hS
    exact ⟨_, by omega, i + 1, s19, rfl, by omega, ha.keeps [2, 3, 5, 6, 20, 21, 22] _ rfl, hS⟩
  ·
   refine jK ha rfl (decide_eq_false c10) ?_;refine wp_exit ?_;refine qJ ?_;refine qJ ?_;refine in_x ?_;refine jJ ?_;refine wp_seq ?_;refine wp_seq ?_;refine jQ [0, 1, 2] ?_;refine yX (d := 36) (b := b8) (j := 0) ha (hS.blk 0 rfl) rfl fun a ha => ?_;have hie : i = es.length := by omega
   rw [hie] at hS;refine jZ (jG 37 (vs := [.slice o.A o.n o.c]) ha (left_sat hS (hS.rdRow (s := o) 2 rfl) (mkN_ok (fs := (bkFaults 0 [] es)) he (Nat.le_refl _))) fun v21 w a hp22 ha => ?_);obtain ⟨ol, rfl, hS⟩ := hp22;have hol := (hS.rdRow (s := ol) 0 rfl).len;refine jZ (jG 38 (vs := [.slice ol.A ol.n ol.c]) ha (backw_sat hS) fun v23 w a hp24 ha => ?_);obtain ⟨b9, rfl, hS⟩ := hp24;refine jY ?_;replace ha := ha.as [(2, .slice none 0 0), (3, .bool false), (6, ptr b8 0), (38, .func (.func 122) #[] #[ptr b9 0])] rfl;refine jJ ?_;refine wp_block ?_;replace hS := hS.pickN 5 [2, 4, 1, 0];have hoL := bkLeft_len (mkN es (bkFaults 0 [] es) es.length);have hkL := mkN_len es (bkFaults 0 [] es) es.length;refine c_range (J := fun (pre : List (At2 (bkLeft (mkN es (bkFaults 0 [] es) es.length)))) Rs_ => ∃ (ko : List Int) (oo : Sl), (ko = (mkN es (bkFaults 0 [] es) es.length) ++ ((pre).map Subtype.val).map (fun q => -q.2)) ∧ (ko.length ≤ 60 + (pre).length) ∧ Rs_ = ((SX.blk b8 [.slice oo.A oo.n oo.c] 37) :: (rI oo ko) :: (rI ol (bkLeft (mkN es (bkFaults 0 [] es) es.length))) :: (SX.blk b9 [.slice ol.A ol.n ol.c] 37) :: [])) (f1 := fun x : At2 (bkLeft (mkN es (bkFaults 0 [] es) es.length)) => iv (x.1.1 : Int)) (f2 := fun x : At2 (bkLeft (mkN es (bkFaults 0 [] es) es.length)) => iv x.1.2) (ex := fun x : At2 (bkLeft (mkN es (bkFaults 0 [] es) es.length)) => [(10, iv x.1.2), (6, ptr b8 0)]) ha rfl (enters_of Try.func122 (by kernel_rfl) rfl) rfl ⟨(mkN es (bkFaults 0 [] es) es.length), o, by simp, by omega, rfl⟩ hS (fun pre Rs_ hJ R hR => by obtain ⟨ko, oo, hko, hkl, rfl⟩ := hJ; simp only [List.mem_cons, List.not_mem_nil, or_false] at hR; rcases hR with rfl | rfl | rfl | rfl <;> first | exact cellar_blk | exact cellar_row) (back_sat (s := ol) (zs := (bkLeft (mkN es (bkFaults 0 [] es) es.length))) hS 3 2 rfl rfl (by omega)) (fun pre Rs_ A B hJ hS => by obtain ⟨ko, oo, hko, hkl, rfl⟩ := hJ; exact KpB.sat (s := ol) (zs := (bkLeft (mkN es (bkFaults 0 [] es) es.length))) hS 3 2 rfl rfl) KpB.trans KpB.refl (fun W l o o' _ h ho _ => KpB.put W l o o' h ho) ?_ ?_ ?_
   ·
    rintro _ x a w K ha hK
    refine r_begin [0] (no_asg) ?_;refine jX [(0, 10, iv x.1.2)] ha fun a ha => ?_;refine jY ?_;exact hK _ (ha.keeps [10, 6] _ rfl)
   ·
    rintro _ pre ⟨⟨j, v⟩, hjv⟩ a w X _ hN ⟨ko, oo, hko, hkl, rfl⟩ hS ha
    replace ha : Has 50 [(10, iv v), (6, ptr b8 0)] a := ha;have hvb := ent_num (mkN_ok (fs := (bkFaults 0 [] es)) he (Nat.le_refl _)) (bkLeft_mem (List.mem_of_getElem? hjv));have hjl := (List.getElem?_eq_some_iff.1 hjv).1;refine wpIn_block ?_;refine r_begin [0, 1, 2, 3, 4, 5] (no_in (no_rnd)) ?_;refine yX (d := 41) (b := b8) (j := 0) ha (hS.blk 1 rfl) rfl fun a ha => ?_;refine jX [(1, 42, iv v)] ha fun a ha => ?_;refine jU (iv (-v)) ha ((qW (v := .int .i64 (IntKind.i64.wrap (0 - v))) ha (xX (op := (Op.unOp UnOp.neg 3 (Operand.tmp 42))) (d := some 43) (ty := 3)) (by kernel_rfl) (fun _ => by kernel_rfl)).as (by rw [wrap_i64 (by omega) (by omega)]; exact congrArg _ (by omega))) fun a ha => ?_;refine jZ (qY 44 [iv (-v)] 3 (fun b => .slice (some ⟨b, 0, none⟩) 1 1) ha hS fun b25 w a hb26 hS ha => ?_);refine jZ (o_ap 45 3 0 (SX.encI (ko ++ [-v])) ha hS rfl rfl (by rw [encI_length]; have := mkN_len es (bkFaults 0 [] es) i; simp only [List.length_append, List.length_cons, List.length_nil, ngN_len]; omega) (encI_snoc _ _) fun s30 w a hS hn31 ha => ?_);refine jZ (yZ b8 0 (.slice s30.A s30.n s30.c) 2 ha hS rfl rfl fun w a hS ha => ?_);refine jY ?_;refine in_n ?_;replace hS := hS.pickN 6 [1, 2, 3, 4, 5];exact ⟨_, ⟨ko ++ [-v], s30, by rw [hko, List.map_append, List.map_append, List.append_assoc]; rfl, by simp only [List.length_append, List.length_cons, List.length_nil]; omega, rfl⟩, hS⟩
   ·
    rintro D pre w _ hE ⟨ko, oo, hko, hkl, rfl⟩ hS
    have hL : ko = mendL es := by rw [hko, hE]; rfl
    rw [hL] at hS;have hon := (hS.rdRow (s := oo) 2 rfl).len;refine in_n ?_;refine jJ ?_;refine wp_seq ?_;refine wp_seq ?_;refine p_beginD [0, 1, 2] (no_then (no_then (no_bodyM))) ?_;refine yX (d := 46) (b := b8) (j := 0) ha (hS.blk 1 rfl) rfl fun a ha => ?_;refine jX [(1, 47, iv (oo.n : Int)), (2, 48, .bool (decide ((oo.n : Int) > 60)))] ha fun a ha => ?_;refine jY ?_;refine then_d ?_
    by_cases c32 : (oo.n : Int) > 60
    ·
     refine c_trueD ha rfl (decide_eq_true c32) ?_;refine wp_seq ?_;refine p_beginD [0, 1] (no_then (no_then (no_bodyM))) ?_;refine jX [(0, 2, .slice none 0 0), (1, 3, .bool false)] ha fun a ha => ?_;refine jY ?_;refine then_d ?_;refine wp_ret ?_;refine qK ?_;have hD := hS.obj 0 rfl;replace hS := Sat.putObj (o' := .deferred none) hS;refine endD_res2 (by kernel_rfl) hD (qX (t := 2) ha rfl) (qX (t := 3) ha rfl) ?_;replace hS := Sat.nilRow (T := 3) (sz := 1) hS;have hE : (mendP es) = ([], false) := by exact mendP_much he (by omega)
     rw [hE];exact ⟨⟨none, 0, 0⟩, rfl, hS.pickN 5 [0]⟩
    ·
     refine c_falseD ha rfl (decide_eq_false c32) ?_;refine wp_skip ?_;refine jJ ?_;refine wp_seq ?_;refine p_beginD [0, 1, 2] (no_then (no_bodyM)) ?_;refine yX (d := 49) (b := b8) (j := 0) ha (hS.blk 1 rfl) rfl fun a ha => ?_;refine jX [(1, 2, .slice oo.A oo.n oo.c), (2, 3, .bool true)] ha fun a ha => ?_;refine jY ?_;refine then_d ?_;refine wp_ret ?_;have hD := hS.obj 0 rfl;replace hS := Sat.putObj (o' := .deferred none) hS;refine endD_res2 (by kernel_rfl) hD (qX (t := 2) ha rfl) (qX (t := 3) ha rfl) ?_;have hE : (mendP es) = ((mendL es), true) := by exact mendP_at he (by omega)
     rw [hE];exact ⟨oo, rfl, hS.pickN 4 [1]⟩
 ·
  refine jW ha rfl (qH c3) ?_
  refine wp_seq ?_
  refine jQ [0, 1] ?_
  refine jX [(0, 2, .slice none 0 0), (1, 3, .bool false)] ha fun a ha => ?_
  refine jY ?_
  refine jJ ?_
  refine wp_ret ?_
  refine qK ?_
  refine endM_res2 ha (by kernel_rfl) (qX (t := 2) ha rfl) (qX (t := 3) ha rfl) ?_
  replace hS := Sat.nilRow (T := 3) (sz := 1) hS
  have hE : (mendP es) = ([], false) := by exact mendP_no c3
  rw [hE]
  exact ⟨⟨none, 0, 0⟩, rfl, hS.pickN 1 [0]⟩
theorem impl_MendEntries_sat {w0 w : World} {Rs : List Asn} {se : Sl} {es : List Int} (hS : Sat w0 w Rs) (hre : RdI w se es) :
  Calls Try.prog 39 #[.slice se.A se.n se.c] w (Ret fun r w' => ∃ o0 : Sl, r = .tuple #[.slice o0.A o0.n o0.c, .bool ((mendP es).2)] ∧ Sat w0 w' (SX.row (.slice o0.A o0.n o0.c) 3 1 (SX.encI ((mendP es).1)) :: Rs)) :=
 (impl_MendEntries_sat0 hre).mono fun e w' h => by
  cases e with
  | returned r => obtain ⟨o0, h1, h2⟩ := h; exact ⟨o0, h1, hS.comp h2⟩
  | _ => exact h.elim
theorem code37 : Try.f37.body = some (Code.seq (cr Try.f37 0 false) (Code.seq (Code.seq (cr Try.f37 1 false) (Code.cond (Operand.tmp 13) (Code.seq (cr Try.f37 2 false) Code.ret) Code.skip)) (Code.seq (cr Try.f37 3 false) (Code.seq (cr Try.f37 4 false) (Code.seq (Code.seq (cr Try.f37 5 false) (Code.block 0 (Code.loop (Code.seq (Code.seq (cr Try.f37 6 false) (Code.cond (Operand.tmp 24) Code.skip (Code.exit 0))) (Code.seq (Code.block 1 (Code.seq (cr Try.f37 8 false) (Code.cond (Operand.tmp 30) (cr Try.f37 9 false) Code.skip))) (cr Try.f37 7 false)))))) (Code.seq (cr Try.f37 10 false) (Code.seq (Code.seq (cr Try.f37 11 false) (Code.block 2 (Code.loop (Code.seq (Code.seq (cr Try.f37 12 false) (Code.cond (Operand.tmp 47) Code.skip (Code.exit 2))) (Code.seq (Code.block 3 (cr Try.f37 14 false)) (cr Try.f37 13 false)))))) (Code.seq (Code.seq (cr Try.f37 15 false) (Code.cond (Operand.tmp 60) (Code.seq (cr Try.f37 16 false) Code.ret) Code.skip)) (Code.seq (cr Try.f37 17 false) Code.ret))))))))) := by kernel_rfl
theorem spec_MendEntries_sat0 {w0 : World} {se : Sl} {es : List Int} (hre : RdI w0 se es) :
  Calls Try.prog 37 #[.slice se.A se.n se.c] w0 (Ret fun r w' => ∃ o0 : Sl, r = .tuple #[.slice o0.A o0.n o0.c, .bool ((mendP es).2)] ∧ Sat w0 w' (SX.row (.slice o0.A o0.n o0.c) 3 1 (SX.encI ((mendP es).1)) :: [])) := by
 have hS : Sat w0 w0 [] := Sat.start w0
 have hel := hre.len
 have hbig := hre.big
 refine enter (n := 63) Try.func37 code37 (by kernel_rfl) (Nat.le_of_ble_eq_true rfl) (fun a ha => ?_)
 replace ha : Has 63 [(0, .slice se.A se.n se.c)] a := ha
 refine wp_seq (jQ [0, 1] (jX [(0, 2, .slice none 0 0), (1, 3, .bool false)] ha fun a ha => ?_))
 refine jY (jJ (wp_seq (wp_seq (jQ [0, 1, 2] (jX [(0, 11, .slice se.A se.n se.c)] ha fun a ha => ?_)))))
 refine jZ (jG 12 (vs := [.slice se.A se.n se.c]) ha (good_sat hS (hre.sat hS)) fun v1 w a hp2 ha => ?_)
 obtain ⟨rfl, hS⟩ := hp2
 refine jX [(2, 13, .bool (!((entriesB es))))] ha fun a ha => ?_
 refine jY (jJ ?_)
 rcases Bool.eq_false_or_eq_true (entriesB es) with c3 | c3
 ·
  have he := c3
  have h60 := (entries_at he).1
  refine jK ha rfl (qG c3) ?_
  refine wp_skip (jJ (wp_seq (jQ [0, 1] (jZ (qY 15 [] 3 (fun b => .slice (some ⟨b, 0, none⟩) 0 0) ha hS fun b4 w a hb5 hS ha => ?_)))))
  refine jX [(1, 4, .slice (some ⟨b4, 0, none⟩) 0 0)] ha fun a ha => ?_
  refine jY (jJ (wp_seq (jQ [0, 1, 2, 3, 4, 5, 6] (jX [(0, 17, .slice se.A se.n se.c)] ha fun a ha => ?_))))
  refine jZ (jG 18 (vs := [.slice se.A se.n se.c]) ha (read_at hS (hre.sat hS) he) fun v6 w a hp7 ha => ?_)
  obtain ⟨v8, v5, rfl, hS⟩ := hp7
  refine jX [(2, 16, .tuple #[.slice v8.A v8.n v8.c, .slice v5.A v5.n v5.c]), (3, 19, .slice v8.A v8.n v8.c), (4, 20, .slice v5.A v5.n v5.c), (5, 5, .slice v8.A v8.n v8.c), (6, 6, .slice v5.A v5.n v5.c)] ha fun a ha => ?_
  refine jY (jJ (wp_seq (wp_seq (jQ [0] (jX [(0, 7, iv 0)] ha fun a ha => ?_)))))
  refine jY (jJ (wp_block ?_))
  replace hS := hS.blk0 1 2 rfl
  replace hS := hS.pickN 3 [1, 2]
  replace hS : Sat w0 w ((rI v5 (bkFaults 0 [] es)) :: (rI (⟨some ⟨b4, 0, none⟩, 0, 0⟩ : Sl) (mkN es (bkFaults 0 [] es) 0)) :: []) := by rw [show mkN es (bkFaults 0 [] es) 0 = [] from rfl]; exact hS
  refine wp_loop_ghost (fun n_ a_ w_ => ∃ (i : Nat) (o : Sl), n_ = es.length - i ∧ (i ≤ es.length) ∧ Has 63 [(0, .slice se.A se.n se.c), (2, .slice none 0 0), (3, .bool false), (6, .slice v5.A v5.n v5.c), (7, iv (i : Int)), (4, .slice o.A o.n o.c)] a_ ∧ Sat w0 w_ ((rI v5 (bkFaults 0 [] es)) :: (rI o (mkN es (bkFaults 0 [] es) i)) :: [])) _ ⟨0, ⟨some ⟨b4, 0, none⟩, 0, 0⟩, rfl, Nat.zero_le _, ha.keeps [0, 2, 3, 6, 7, 4] _ rfl, hS⟩ ?_
  rintro n_ a w ⟨i, o, rfl, hi, ha, hS⟩
  refine wp_seq (wp_seq (jQ [0, 1, 2, 3] (jX [(0, 21, iv (i : Int)), (1, 22, .slice se.A se.n se.c), (2, 23, iv (se.n : Int)), (3, 24, .bool (decide ((i : Int) < (se.n : Int))))] ha fun a ha => ?_)))
  refine jY (jJ ?_)
  by_cases c8 : (i : Int) < (se.n : Int)
  ·
   have hlt : i < es.length := by omega
   obtain ⟨x9, hx9⟩ : ∃ x, es[i]? = some x := ⟨_, List.getElem?_eq_getElem hlt⟩;refine jW ha rfl (decide_eq_true c8) ?_;refine wp_skip (jJ (wp_seq (wp_block (wp_seq (jQ [0, 1, 2, 3] (jX [(0, 27, .slice v5.A v5.n v5.c), (1, 28, iv (i : Int))] ha fun a ha => ?_))))));refine jZ (jG 29 (vs := [.slice v5.A v5.n v5.c, iv (i : Int)]) ha (bhas_sat hS (hS.rdRow (s := v5) 0 rfl)) fun v9 w a hp10 ha => ?_);obtain ⟨rfl, hS⟩ := hp10;refine jX [(3, 30, .bool (!(((bkFaults 0 [] es).contains (i : Int)))))] ha fun a ha => ?_;refine jY (jJ ?_)
   rcases Bool.eq_false_or_eq_true ((bkFaults 0 [] es).contains (i : Int)) with c11 | c11
   ·
    refine jK ha rfl (qG c11) ?_;refine wp_skip (in_n (jJ (jQ [0, 1, 2] (jX [(0, 25, iv (i : Int))] ha fun a ha => ?_))));refine qZ 26 ((i : Int) + 1) ha fun a ha => ?_;refine jX [(2, 7, iv ((i : Int) + 1))] ha fun a ha => ?_;refine jY (jJ ?_);replace hS : Sat w0 w ((rI v5 (bkFaults 0 [] es)) :: (rI o (mkN es (bkFaults 0 [] es) i)) :: []) := hS;replace hS : Sat w0 w ((rI v5 (bkFaults 0 [] es)) :: (rI o (mkN es (bkFaults 0 [] es) (i + 1))) :: []) := by rw [mkN_no c11]; exact hS
    exact ⟨_, by omega, i + 1, o, rfl, by omega, ha.keeps [0, 2, 3, 6, 7, 4] _ rfl, hS⟩
   refine jW ha rfl (qH c11) ?_;refine jQ [0, 1, 2, 3, 4, 5, 6, 7] (jX [(0, 31, .slice o.A o.n o.c), (1, 32, .slice se.A se.n se.c), (2, 33, iv (i : Int))] ha fun a ha => ?_);refine jU (.pointer (some ⟨bk se, of_ se + i * 1, none⟩)) ha (jH (el := 3) (sz := 1) (j := i) ha (qV (t := 37) (x := 32) (y := 33) (d := 34)) rfl rfl (by kernel_rfl) (by kernel_rfl) ((hre.sat hS).at_ ((List.getElem?_eq_some_iff.1 hx9).1)).1 (by rw [((hre.sat hS)).len]; exact (List.getElem?_eq_some_iff.1 hx9).1)) fun a ha => ?_;refine jU (iv x9) ha (qQ (p := ⟨bk se, of_ se + i * 1, none⟩) ha (qU (t := 3) (x := 34) (d := 35) (ty := 3)) rfl (by kernel_rfl) (fun w' hw => by rw [hw, Nat.mul_one, ← getD_of hx9]; exact ((hre.sat hS).at_ ((List.getElem?_eq_some_iff.1 hx9).1)).2)) fun a ha => ?_;refine jZ (qY 36 [iv x9] 3 (fun b => .slice (some ⟨b, 0, none⟩) 1 1) ha hS fun b12 w a hb13 hS ha => ?_);refine jZ (o_ap 37 2 0 (SX.encI ((mkN es (bkFaults 0 [] es) i) ++ [x9])) ha hS rfl rfl (by rw [encI_length]; have := mkN_len es (bkFaults 0 [] es) i; simp only [List.length_append, List.length_cons, List.length_nil, ngN_len]; omega) (encI_snoc _ _) fun s17 w a hS hn18 ha => ?_);refine jX [(7, 4, .slice s17.A s17.n s17.c)] ha fun a ha => ?_;refine jY (in_n (jJ (jQ [0, 1, 2] (jX [(0, 25, iv (i : Int))] ha fun a ha => ?_))));refine qZ 26 ((i : Int) + 1) ha fun a ha => ?_;refine jX [(2, 7, iv ((i : Int) + 1))] ha fun a ha => ?_;refine jY (jJ ?_);replace hS := hS.pickN 3 [1, 2];replace hS : Sat w0 w ((rI v5 (bkFaults 0 [] es)) :: (rI s17 (mkN es (bkFaults 0 [] es) (i + 1))) :: []) := by rw [mkN_yes hx9 c11]; exact hS
   exact ⟨_, by omega, i + 1, s17, rfl, by omega, ha.keeps [0, 2, 3, 6, 7, 4] _ rfl, hS⟩
  refine jK ha rfl (decide_eq_false c8) ?_
  refine wp_exit (qJ (qJ (in_x (jJ (wp_seq (jQ [0, 1, 2, 3, 4, 5, 6] (jX [(0, 39, .slice o.A o.n o.c)] ha fun a ha => ?_)))))))
  have hie : i = es.length := by omega
  rw [hie] at hS
  refine jZ (jG 40 (vs := [.slice o.A o.n o.c]) ha (read_at hS (hS.rdRow (s := o) 1 rfl) (mkN_ok (fs := (bkFaults 0 [] es)) he (Nat.le_refl _))) fun v19 w a hp20 ha => ?_)
  obtain ⟨v4, v7, rfl, hS⟩ := hp20
  have hv4 := (hS.rdRow (s := v4) 0 rfl).len
  have hoL := bkLeft_len (mkN es (bkFaults 0 [] es) es.length)
  have hkL := mkN_len es (bkFaults 0 [] es) es.length
  refine jX [(2, 38, .tuple #[.slice v4.A v4.n v4.c, .slice v7.A v7.n v7.c]), (3, 41, .slice v4.A v4.n v4.c), (4, 42, .slice v7.A v7.n v7.c), (5, 8, .slice v4.A v4.n v4.c), (6, 9, .slice v7.A v7.n v7.c)] ha fun a ha => ?_
  refine jY ?_
  replace ha := ha.as [(2, .slice none 0 0), (3, .bool false), (4, .slice o.A o.n o.c), (8, .slice v4.A v4.n v4.c)] rfl
  refine jJ (wp_seq (wp_seq (jQ [0, 1, 2, 3] (jX [(0, 43, .slice v4.A v4.n v4.c), (1, 44, iv (v4.n : Int))] ha fun a ha => ?_))))
  refine qZ 45 ((v4.n : Int) - 1) ha fun a ha => ?_
  refine jX [(3, 10, iv ((v4.n : Int) - 1))] ha fun a ha => ?_
  refine jY (jJ (wp_block ?_))
  replace hS := hS.pickN 4 [0, 3]
  have hoL := bkLeft_len (mkN es (bkFaults 0 [] es) es.length)
  have hkL := mkN_len es (bkFaults 0 [] es) es.length
  replace ha := ha.turn 10 (iv (((bkLeft (mkN es (bkFaults 0 [] es) es.length)).length : Int) - 1 - ((0 : Nat) : Int))) rfl (congrArg iv (by omega))
  replace hS : Sat w0 w ((rI v4 (bkLeft (mkN es (bkFaults 0 [] es) es.length))) :: (rI o ((mkN es (bkFaults 0 [] es) es.length) ++ ngN (bkLeft (mkN es (bkFaults 0 [] es) es.length)) 0)) :: []) := by rw [show ngN (bkLeft (mkN es (bkFaults 0 [] es) es.length)) 0 = [] from rfl, List.append_nil]; exact hS
  refine wp_loop_ghost (fun n_ a_ w_ => ∃ (j : Nat) (o : Sl), n_ = (bkLeft (mkN es (bkFaults 0 [] es) es.length)).length - j ∧ (j ≤ (bkLeft (mkN es (bkFaults 0 [] es) es.length)).length) ∧ Has 63 [(2, .slice none 0 0), (3, .bool false), (8, .slice v4.A v4.n v4.c), (4, .slice o.A o.n o.c), (10, iv (((bkLeft (mkN es (bkFaults 0 [] es) es.length)).length : Int) - 1 - (j : Int)))] a_ ∧ Sat w0 w_ ((rI v4 (bkLeft (mkN es (bkFaults 0 [] es) es.length))) :: (rI o ((mkN es (bkFaults 0 [] es) es.length) ++ ngN (bkLeft (mkN es (bkFaults 0 [] es) es.length)) j)) :: [])) _ ⟨0, o, rfl, Nat.zero_le _, ha.keeps [2, 3, 8, 4, 10] _ rfl, hS⟩ ?_
  rintro n_ a w ⟨j, o, rfl, hj, ha, hS⟩
  refine wp_seq (wp_seq (jQ [0, 1] (jX [(0, 46, iv (((bkLeft (mkN es (bkFaults 0 [] es) es.length)).length : Int) - 1 - (j : Int))), (1, 47, .bool (decide ((((bkLeft (mkN es (bkFaults 0 [] es) es.length)).length : Int) - 1 - (j : Int)) ≥ 0)))] ha fun a ha => ?_)))
  refine jY (jJ ?_)
  by_cases c21 : (((bkLeft (mkN es (bkFaults 0 [] es) es.length)).length : Int) - 1 - (j : Int)) ≥ 0
  ·
   obtain ⟨x7, hx7⟩ : ∃ x, (bkLeft (mkN es (bkFaults 0 [] es) es.length))[(bkLeft (mkN es (bkFaults 0 [] es) es.length)).length - 1 - j]? = some x := ⟨_, List.getElem?_eq_getElem (by omega)⟩;have hvb := ent_num (mkN_ok (fs := (bkFaults 0 [] es)) he (Nat.le_refl _)) (bkLeft_mem (List.mem_of_getElem? hx7));refine jW ha rfl (decide_eq_true c21) ?_;refine wp_skip (jJ (wp_seq (wp_block (jQ [0, 1, 2, 3, 4, 5, 6, 7, 8] (jX [(0, 50, .slice o.A o.n o.c), (1, 51, .slice v4.A v4.n v4.c), (2, 52, iv (((bkLeft (mkN es (bkFaults 0 [] es) es.length)).length : Int) - 1 - (j : Int)))] ha fun a ha => ?_)))));refine jU (.pointer (some ⟨bk v4, of_ v4 + ((bkLeft (mkN es (bkFaults 0 [] es) es.length)).length - 1 - j) * 1, none⟩)) ha (yK (s := v4) (el := 3) (sz := 1) (j := ((bkLeft (mkN es (bkFaults 0 [] es) es.length)).length - 1 - j)) ha (qV (t := 37) (x := 51) (y := 52) (d := 53)) rfl rfl (by kernel_rfl) (by kernel_rfl) ((hS.rdRow (s := v4) 0 rfl).at_ (List.getElem?_eq_some_iff.1 hx7).1).1 (by omega) (by rw [(hS.rdRow (s := v4) 0 rfl).len]; omega)) fun a ha => ?_;refine jU (iv x7) ha (qQ (p := ⟨bk v4, of_ v4 + ((bkLeft (mkN es (bkFaults 0 [] es) es.length)).length - 1 - j) * 1, none⟩) ha (qU (t := 3) (x := 53) (d := 54) (ty := 3)) rfl (by kernel_rfl) (fun w' hw => by rw [hw, Nat.mul_one, ← getD_of hx7]; exact ((hS.rdRow (s := v4) 0 rfl).at_ ((List.getElem?_eq_some_iff.1 hx7).1)).2)) fun a ha => ?_;refine jU (iv (-x7)) ha ((qW (v := .int .i64 (IntKind.i64.wrap (0 - x7))) ha (xX (op := (Op.unOp UnOp.neg 3 (Operand.tmp 54))) (d := some 55) (ty := 3)) (by kernel_rfl) (fun _ => by kernel_rfl)).as (by rw [wrap_i64 (by omega) (by omega)]; exact congrArg _ (by omega))) fun a ha => ?_;refine jZ (qY 56 [iv (-x7)] 3 (fun b => .slice (some ⟨b, 0, none⟩) 1 1) ha hS fun b22 w a hb23 hS ha => ?_);refine jZ (o_ap 57 2 0 (SX.encI (((mkN es (bkFaults 0 [] es) es.length) ++ ngN (bkLeft (mkN es (bkFaults 0 [] es) es.length)) j) ++ [-x7])) ha hS rfl rfl (by rw [encI_length]; have := mkN_len es (bkFaults 0 [] es) i; simp only [List.length_append, List.length_cons, List.length_nil, ngN_len]; omega) (encI_snoc _ _) fun s27 w a hS hn28 ha => ?_);refine jX [(8, 4, .slice s27.A s27.n s27.c)] ha fun a ha => ?_;refine jY (in_n (jJ (jQ [0, 1, 2] (jX [(0, 48, iv (((bkLeft (mkN es (bkFaults 0 [] es) es.length)).length : Int) - 1 - (j : Int)))] ha fun a ha => ?_))));refine qZ 49 ((((bkLeft (mkN es (bkFaults 0 [] es) es.length)).length : Int) - 1 - (j : Int)) - 1) ha fun a ha => ?_;refine jX [(2, 10, iv ((((bkLeft (mkN es (bkFaults 0 [] es) es.length)).length : Int) - 1 - (j : Int)) - 1))] ha fun a ha => ?_;refine jY (jJ ?_);replace hS := hS.pickN 3 [1, 2];replace hS : Sat w0 w ((rI v4 (bkLeft (mkN es (bkFaults 0 [] es) es.length))) :: (rI s27 ((mkN es (bkFaults 0 [] es) es.length) ++ ngN (bkLeft (mkN es (bkFaults 0 [] es) es.length)) (j + 1))) :: []) := by rw [ngN_next hx7, ← List.append_assoc]; exact hS
   replace ha := ha.turn 10 (iv (((bkLeft (mkN es (bkFaults 0 [] es) es.length)).length : Int) - 1 - ((j + 1 : Nat) : Int))) rfl (congrArg iv (by omega));exact ⟨_, by omega, j + 1, s27, rfl, by omega, ha.keeps [2, 3, 8, 4, 10] _ rfl, hS⟩
  have hje : j = (bkLeft (mkN es (bkFaults 0 [] es) es.length)).length := by omega
  rw [hje] at hS
  replace hS : Sat w0 w ((rI v4 (bkLeft (mkN es (bkFaults 0 [] es) es.length))) :: (rI o (mendL es)) :: []) := hS
  have hon := (hS.rdRow (s := o) 1 rfl).len
  refine jK ha rfl (decide_eq_false c21) ?_
  refine wp_exit (qJ (qJ (in_x (jJ (wp_seq (wp_seq (jQ [0, 1, 2] (jX [(0, 58, .slice o.A o.n o.c), (1, 59, iv (o.n : Int)), (2, 60, .bool (decide ((o.n : Int) > 60)))] ha fun a ha => ?_))))))))
  refine jY (jJ ?_)
  by_cases c29 : (o.n : Int) > 60
  ·
   refine jW ha rfl (decide_eq_true c29) ?_;refine wp_seq (jQ [0, 1, 2] (jZ (qY 61 [] 3 (fun b => .slice (some ⟨b, 0, none⟩) 0 0) ha hS fun b30 w a hb31 hS ha => ?_)));refine jX [(1, 2, .slice (some ⟨b30, 0, none⟩) 0 0), (2, 3, .bool false)] ha fun a ha => ?_;refine jY (jJ (wp_ret (qK (xY ha (by kernel_rfl) (qX (t := 2) ha rfl) (qX (t := 3) ha rfl) ?_))));replace hS := hS.blk0 1 0 rfl;have hE : (mendP es) = ([], false) := by exact mendP_much he (by omega)
   rw [hE];exact ⟨⟨some ⟨b30, 0, none⟩, 0, 0⟩, rfl, hS.pickN 3 [0]⟩
  refine jK ha rfl (decide_eq_false c29) ?_
  refine wp_skip (jJ (wp_seq (jQ [0, 1, 2] (jX [(0, 62, .slice o.A o.n o.c), (1, 2, .slice o.A o.n o.c), (2, 3, .bool true)] ha fun a ha => ?_))))
  refine jY (jJ (wp_ret (xY ha (by kernel_rfl) (qX (t := 2) ha rfl) (qX (t := 3) ha rfl) ?_)))
  have hE : (mendP es) = ((mendL es), true) := by exact mendP_at he (by omega)
  rw [hE]
  exact ⟨o, rfl, hS.pickN 2 [1]⟩
 refine jW ha rfl (qH c3) ?_
 refine wp_seq (jQ [0, 1, 2] (jZ (qY 14 [] 3 (fun b => .slice (some ⟨b, 0, none⟩) 0 0) ha hS fun b32 w a hb33 hS ha => ?_)))
 refine jX [(1, 2, .slice (some ⟨b32, 0, none⟩) 0 0), (2, 3, .bool false)] ha fun a ha => ?_
 refine jY (jJ (wp_ret (qK (xY ha (by kernel_rfl) (qX (t := 2) ha rfl) (qX (t := 3) ha rfl) ?_))))
 replace hS := hS.blk0 1 0 rfl
 have hE : (mendP es) = ([], false) := by exact mendP_no c3
 rw [hE]
 exact ⟨⟨some ⟨b32, 0, none⟩, 0, 0⟩, rfl, hS.pickN 1 [0]⟩
theorem spec_MendEntries_sat {w0 w : World} {Rs : List Asn} {se : Sl} {es : List Int} (hS : Sat w0 w Rs) (hre : RdI w se es) :
  Calls Try.prog 37 #[.slice se.A se.n se.c] w (Ret fun r w' => ∃ o0 : Sl, r = .tuple #[.slice o0.A o0.n o0.c, .bool ((mendP es).2)] ∧ Sat w0 w' (SX.row (.slice o0.A o0.n o0.c) 3 1 (SX.encI ((mendP es).1)) :: Rs)) :=
 (spec_MendEntries_sat0 hre).mono fun e w' h => by
  cases e with
  | returned r => obtain ⟨o0, h1, h2⟩ := h; exact ⟨o0, h1, hS.comp h2⟩
  | _ => exact h.elim
theorem code10 : Try.f10.body = some (Code.seq (cr Try.f10 0 false) (Code.seq (Code.seq (cr Try.f10 1 false) (Code.cond (Operand.tmp 15) (Code.seq (cr Try.f10 2 false) Code.ret) Code.skip)) (Code.seq (cr Try.f10 3 false) (Code.seq (cr Try.f10 4 false) (Code.seq (cr Try.f10 5 false) (Code.seq (Code.seq (cr Try.f10 6 false) (Code.cond (Operand.tmp 37) (Code.seq (cr Try.f10 7 false) Code.ret) Code.skip)) (Code.seq (Code.seq (cr Try.f10 8 false) (Code.cond (Operand.tmp 42) (Code.seq (cr Try.f10 9 false) Code.ret) Code.skip)) (Code.seq (cr Try.f10 10 false) (Code.seq (cr Try.f10 11 false) (Code.seq (Code.seq (cr Try.f10 12 false) (Code.cond (Operand.tmp 58) (Code.seq (cr Try.f10 13 false) Code.ret) Code.skip)) (Code.seq (cr Try.f10 14 false) (Code.seq (cr Try.f10 15 false) (Code.seq (cr Try.f10 16 false) (Code.seq (cr Try.f10 17 false) (Code.seq (Code.seq (cr Try.f10 18 false) (Code.cond (Operand.tmp 66) (Code.seq (cr Try.f10 19 false) Code.ret) Code.skip)) (Code.seq (Code.seq (cr Try.f10 20 false) (Code.cond (Operand.tmp 69) (Code.seq (cr Try.f10 21 false) Code.ret) Code.skip)) (Code.seq (cr Try.f10 22 false) (Code.seq (Code.seq (cr Try.f10 23 false) (Code.cond (Operand.tmp 84) (Code.seq (cr Try.f10 24 false) Code.ret) Code.skip)) (Code.seq (cr Try.f10 25 false) (Code.seq (cr Try.f10 26 false) (Code.seq (Code.seq (cr Try.f10 27 false) (Code.cond (Operand.tmp 89) (Code.seq (cr Try.f10 28 false) Code.ret) Code.skip)) (Code.seq (Code.seq (cr Try.f10 29 false) (Code.cond (Operand.tmp 92) (Code.seq (cr Try.f10 30 false) Code.ret) Code.skip)) (Code.seq (cr Try.f10 31 false) Code.ret))))))))))))))))))))))) := by kernel_rfl
theorem law10_walk (w0 : World) (res : Sl) (es : List Int) (hres : RdI w0 res es) :
  Calls Try.prog 10 #[.slice res.A res.n res.c] w0 (Ret fun r w' => r = .bool true ∧ Below w0.heap.size w0 w') := by
 have hS : Sat w0 w0 [] := Sat.start w0
 have hnes := hres.len
 have hges := hres.big
 refine enter (n := 93) Try.func10 code10 (by kernel_rfl) (Nat.le_of_ble_eq_true rfl) (fun a ha => ?_)
 replace ha : Has 93 [(0, .slice res.A res.n res.c)] a := ha
 refine wp_seq (jQ [0] (jX [(0, 2, .bool false)] ha fun a ha => ?_))
 refine jY (jJ (wp_seq (wp_seq (jQ [0, 1, 2] (jX [(0, 13, .slice res.A res.n res.c), (1, 14, iv (res.n : Int)), (2, 15, .bool (decide ((res.n : Int) > 1048576)))] ha fun a ha => ?_)))))
 refine jY (jJ ?_)
 by_cases c1 : (res.n : Int) > 1048576
 ·
  refine jW ha rfl (decide_eq_true c1) ?_
  refine wp_seq (jQ [0] (jX [(0, 2, .bool true)] ha fun a ha => ?_))
  refine jY (jJ (wp_ret (qK (jV ha (by kernel_rfl) (qX (t := 2) ha rfl) ?_))))
  exact ⟨rfl, hS.below⟩
 refine jK ha rfl (decide_eq_false c1) ?_
 refine wp_skip (jJ (wp_seq (jQ [0, 1, 2, 3, 4, 5, 6, 7] (jX [(0, 17, .slice res.A res.n res.c)] ha fun a ha => ?_))))
 refine jZ (jG 18 (vs := [.slice res.A res.n res.c]) ha (toIntS_sat hS (hres.sat hS) (by omega)) fun v2 w a hp3 ha => ?_)
 obtain ⟨o1, rfl, hS⟩ := hp3
 refine jZ (jG 19 (vs := [.slice o1.A o1.n o1.c]) ha (spec_MendEntries_sat hS (hS.rdRow (s := o1) 0 rfl)) fun v4 w a hp5 ha => ?_)
 obtain ⟨o2, rfl, hS⟩ := hp5
 refine jX [(3, 16, .tuple #[.slice o2.A o2.n o2.c, .bool ((mendP es).2)]), (4, 20, .slice o2.A o2.n o2.c), (5, 21, .bool ((mendP es).2)), (6, 3, .slice o2.A o2.n o2.c), (7, 4, .bool ((mendP es).2))] ha fun a ha => ?_
 refine jY (jJ (wp_seq (jQ [0, 1, 2] (jX [(0, 22, .slice res.A res.n res.c)] ha fun a ha => ?_))))
 refine jZ (jG 23 (vs := [.slice res.A res.n res.c]) ha (toIntS_sat hS (hres.sat hS) (by omega)) fun v6 w a hp7 ha => ?_)
 obtain ⟨o3, rfl, hS⟩ := hp7
 refine jX [(2, 5, .slice o3.A o3.n o3.c)] ha fun a ha => ?_
 refine jY (jJ (wp_seq (jQ [0, 1, 2, 3, 4, 5, 6] (jX [(0, 25, .slice o3.A o3.n o3.c)] ha fun a ha => ?_))))
 refine jZ (jG 26 (vs := [.slice o3.A o3.n o3.c]) ha (impl_MendEntries_sat hS (hS.rdRow (s := o3) 0 rfl)) fun v8 w a hp9 ha => ?_)
 obtain ⟨o4, rfl, hS⟩ := hp9
 refine jX [(2, 24, .tuple #[.slice o4.A o4.n o4.c, .bool ((mendP es).2)]), (3, 27, .slice o4.A o4.n o4.c), (4, 28, .bool ((mendP es).2)), (5, 6, .slice o4.A o4.n o4.c), (6, 7, .bool ((mendP es).2))] ha fun a ha => ?_
 refine jY ?_
 replace ha := ha.as [(0, .slice res.A res.n res.c), (2, .bool false), (3, .slice o2.A o2.n o2.c), (4, .bool ((mendP es).2)), (5, .slice o3.A o3.n o3.c), (6, .slice o4.A o4.n o4.c), (7, .bool ((mendP es).2))] rfl
 refine jJ (wp_seq (wp_seq (jQ [0, 1, 2, 3, 4, 5, 6, 7, 8] (jX [(0, 29, .slice o4.A o4.n o4.c), (1, 30, .slice o2.A o2.n o2.c)] ha fun a ha => ?_))))
 refine jZ (jG 31 (vs := [.slice o4.A o4.n o4.c, .slice o2.A o2.n o2.c]) ha (eqIntS_sat hS (hS.rdRow (s := o4) 0 rfl) (hS.rdRow (s := o2) 2 rfl)) fun v10 w a hp11 ha => ?_)
 obtain ⟨rfl, hS⟩ := hp11
 refine jX [(3, 32, .bool false), (4, 33, .bool false), (5, 34, .bool ((mendP es).2)), (6, 35, .bool ((mendP es).2))] ha fun a ha => ?_
 refine jU (.bool false) ha ((qW (v := .bool (!(((mendP es).2) == ((mendP es).2)))) ha (AtG.here (gd := 33) ⟨(by kernel_rfl : ((xH Try.f10 6)[7]?).map spec = some ((Op.binOp BinOp.neq 4 (Operand.tmp 34) (Operand.tmp 35) 4), some 36, 4, some (4, false))), by kernel_rfl⟩ ha rfl) (by kernel_rfl) (fun _ => by kernel_rfl)).as (by simp)) fun a ha => ?_
 refine jX [(8, 37, .bool false)] ha fun a ha => ?_
 refine jY (jJ ?_)
 refine jK ha rfl rfl ?_
 refine wp_skip (jJ (wp_seq (wp_seq (jQ [0, 1, 2, 3, 4] (jX [(0, 38, .slice o3.A o3.n o3.c), (1, 39, .slice res.A res.n res.c)] ha fun a ha => ?_)))))
 refine jZ (jG 40 (vs := [.slice res.A res.n res.c]) ha (toIntS_sat hS (hres.sat hS) (by omega)) fun v12 w a hp13 ha => ?_)
 obtain ⟨o5, rfl, hS⟩ := hp13
 refine jZ (jG 41 (vs := [.slice o3.A o3.n o3.c, .slice o5.A o5.n o5.c]) ha (eqIntS_sat hS (hS.rdRow (s := o3) 2 rfl) (hS.rdRow (s := o5) 0 rfl)) fun v14 w a hp15 ha => ?_)
 obtain ⟨rfl, hS⟩ := hp15
 refine jX [(4, 42, .bool false)] ha fun a ha => ?_
 refine jY (jJ ?_)
 refine jK ha rfl rfl ?_
 refine wp_skip (jJ (wp_seq (jQ [0] (jX [(0, 8, iv 1)] ha fun a ha => ?_))))
 refine jY (jJ (wp_seq (jQ [0, 1, 2, 3] (jX [(0, 43, .slice o3.A o3.n o3.c), (1, 44, iv 1)] ha fun a ha => ?_))))
 replace hS := hS.pickN 5 [2, 0, 1, 3, 4]
 refine jZ (jG 45 (vs := [.slice o3.A o3.n o3.c, iv 1]) ha (markG_sat hS (by omega) (by omega) (by omega)) fun v16 w a hp17 ha => ?_)
 obtain ⟨rfl, hS⟩ := hp17
 refine jX [(3, 8, iv (1 + (es.length : Int)))] ha fun a ha => ?_
 refine jY ?_
 replace ha := ha.as [(0, .slice res.A res.n res.c), (2, .bool false), (3, .slice o2.A o2.n o2.c), (4, .bool ((mendP es).2)), (6, .slice o4.A o4.n o4.c), (7, .bool ((mendP es).2)), (8, iv (1 + (es.length : Int)))] rfl
 refine jJ (wp_seq (wp_seq (jQ [0, 1, 2, 3, 4, 5, 6, 7, 8, 9, 10, 11, 12] (jX [(0, 46, iv (1 + (es.length : Int)))] ha fun a ha => ?_))))
 refine jU (.bool false) ha ((qW (v := .bool (decide (1 + (es.length : Int) < 0))) ha (xX (op := (Op.binOp BinOp.lss 3 (Operand.tmp 46) (Operand.const (Value.int IntKind.i64 0)) 3)) (d := some 47) (ty := 4)) (by kernel_rfl) (fun _ => by kernel_rfl)).as (by rw [decide_eq_false (by omega)])) fun a ha => ?_
 refine jX [(2, 48, .bool false), (3, 49, .slice o4.A o4.n o4.c), (4, 50, .slice o2.A o2.n o2.c)] ha fun a ha => ?_
 refine jZ (jG 51 (vs := [.slice o4.A o4.n o4.c, .slice o2.A o2.n o2.c]) ha (eqIntS_sat hS (hS.rdRow (s := o4) 2 rfl) (hS.rdRow (s := o2) 3 rfl)) fun v18 w a hp19 ha => ?_)
 obtain ⟨rfl, hS⟩ := hp19
 refine jX [(6, 52, .bool false), (7, 53, .bool false), (8, 54, .bool false), (9, 55, .bool ((mendP es).2)), (10, 56, .bool ((mendP es).2))] ha fun a ha => ?_
 refine jU (.bool false) ha ((qW (v := .bool (!(((mendP es).2) == ((mendP es).2)))) ha (AtG.here (gd := 54) ⟨(by kernel_rfl : ((xH Try.f10 12)[11]?).map spec = some ((Op.binOp BinOp.neq 4 (Operand.tmp 55) (Operand.tmp 56) 4), some 57, 4, some (8, false))), by kernel_rfl⟩ ha rfl) (by kernel_rfl) (fun _ => by kernel_rfl)).as (by simp)) fun a ha => ?_
 refine jX [(12, 58, .bool false)] ha fun a ha => ?_
 refine jY (jJ ?_)
 refine jK ha rfl rfl ?_
 refine wp_skip (jJ (wp_seq (jQ [0] (jX [(0, 9, iv 1)] ha fun a ha => ?_))))
 refine jY (jJ (wp_seq (jQ [0, 1, 2, 3] (jX [(0, 59, .slice o4.A o4.n o4.c), (1, 60, iv 1)] ha fun a ha => ?_))))
 replace hS := hS.pickN 5 [2, 0, 1, 3, 4]
 refine jZ (jG 61 (vs := [.slice o4.A o4.n o4.c, iv 1]) ha (markG_sat hS (by omega) (by omega) (Nat.le_trans (mendP_len ..) (by decide))) fun v20 w a hp21 ha => ?_)
 obtain ⟨rfl, hS⟩ := hp21
 refine jX [(3, 9, iv (1 + (((mendP es).1).length : Int)))] ha fun a ha => ?_
 refine jY ?_
 replace ha := ha.as [(0, .slice res.A res.n res.c), (2, .bool false), (3, .slice o2.A o2.n o2.c), (4, .bool ((mendP es).2)), (6, .slice o4.A o4.n o4.c), (9, iv (1 + (((mendP es).1).length : Int)))] rfl
 refine jJ (wp_seq (jQ [0] (jX [(0, 10, iv 1)] ha fun a ha => ?_)))
 refine jY (jJ (wp_seq (jQ [0, 1, 2, 3] (jX [(0, 62, .slice o4.A o4.n o4.c), (1, 63, iv 1)] ha fun a ha => ?_))))
 refine jZ (jG 64 (vs := [.slice o4.A o4.n o4.c, iv 1]) ha (heldI_sat hS (hS.rdRow (s := o4) 0 rfl) (Nat.le_trans (mendP_len ..) (by decide))) fun v22 w a hp23 ha => ?_)
 obtain ⟨rfl, hS⟩ := hp23
 refine jX [(3, 10, iv (1 + (((mendP es).1).length : Int)))] ha fun a ha => ?_
 refine jY (jJ (wp_seq (wp_seq (jQ [0, 1] (jX [(0, 65, iv (1 + (((mendP es).1).length : Int)))] ha fun a ha => ?_)))))
 refine jU (.bool false) ha ((qW (v := .bool (decide (1 + (((mendP es).1).length : Int) < 0))) ha (xX (op := (Op.binOp BinOp.lss 3 (Operand.tmp 65) (Operand.const (Value.int IntKind.i64 0)) 3)) (d := some 66) (ty := 4)) (by kernel_rfl) (fun _ => by kernel_rfl)).as (by rw [decide_eq_false (by omega)])) fun a ha => ?_
 refine jY (jJ ?_)
 refine jK ha rfl rfl ?_
 refine wp_skip (jJ (wp_seq (wp_seq (jQ [0, 1, 2] (jX [(0, 67, iv (1 + (((mendP es).1).length : Int))), (1, 68, iv (1 + (((mendP es).1).length : Int)))] ha fun a ha => ?_)))))
 refine jU (.bool false) ha ((qW (v := .bool (!(decide (1 + (((mendP es).1).length : Int) = 1 + (((mendP es).1).length : Int))))) ha (xX (op := (Op.binOp BinOp.neq 3 (Operand.tmp 67) (Operand.tmp 68) 3)) (d := some 69) (ty := 4)) (by kernel_rfl) (fun _ => by kernel_rfl)).as (by simp)) fun a ha => ?_
 refine jY (jJ ?_)
 refine jK ha rfl rfl ?_
 refine wp_skip (jJ (wp_seq (jQ [0, 1, 2, 3, 4, 5, 6, 7] (jX [(0, 71, .slice res.A res.n res.c)] ha fun a ha => ?_))))
 refine jZ (jG 72 (vs := [.slice res.A res.n res.c]) ha (toIntS_sat hS (hres.sat hS) (by omega)) fun v24 w a hp25 ha => ?_)
 obtain ⟨o6, rfl, hS⟩ := hp25
 refine jZ (jG 73 (vs := [.slice o6.A o6.n o6.c]) ha (impl_MendEntries_sat hS (hS.rdRow (s := o6) 0 rfl)) fun v26 w a hp27 ha => ?_)
 obtain ⟨o7, rfl, hS⟩ := hp27
 refine jX [(3, 70, .tuple #[.slice o7.A o7.n o7.c, .bool ((mendP es).2)]), (4, 74, .slice o7.A o7.n o7.c), (5, 75, .bool ((mendP es).2)), (6, 11, .slice o7.A o7.n o7.c), (7, 12, .bool ((mendP es).2))] ha fun a ha => ?_
 refine jY (jJ (wp_seq (wp_seq (jQ [0, 1, 2, 3, 4, 5, 6, 7, 8] (jX [(0, 76, .slice o7.A o7.n o7.c), (1, 77, .slice o2.A o2.n o2.c)] ha fun a ha => ?_)))))
 refine jZ (jG 78 (vs := [.slice o7.A o7.n o7.c, .slice o2.A o2.n o2.c]) ha (eqIntS_sat hS (hS.rdRow (s := o7) 0 rfl) (hS.rdRow (s := o2) 5 rfl)) fun v28 w a hp29 ha => ?_)
 obtain ⟨rfl, hS⟩ := hp29
 refine jX [(3, 79, .bool false), (4, 80, .bool false), (5, 81, .bool ((mendP es).2)), (6, 82, .bool ((mendP es).2))] ha fun a ha => ?_
 refine jU (.bool false) ha ((qW (v := .bool (!(((mendP es).2) == ((mendP es).2)))) ha (AtG.here (gd := 80) ⟨(by kernel_rfl : ((xH Try.f10 23)[7]?).map spec = some ((Op.binOp BinOp.neq 4 (Operand.tmp 81) (Operand.tmp 82) 4), some 83, 4, some (4, false))), by kernel_rfl⟩ ha rfl) (by kernel_rfl) (fun _ => by kernel_rfl)).as (by simp)) fun a ha => ?_
 refine jX [(8, 84, .bool false)] ha fun a ha => ?_
 refine jY ?_
 replace ha := ha.as [(2, .bool false), (6, .slice o4.A o4.n o4.c), (9, iv (1 + (((mendP es).1).length : Int))), (10, iv (1 + (((mendP es).1).length : Int))), (84, .bool false)] rfl
 refine jJ ?_
 refine jK ha rfl rfl ?_
 refine wp_skip (jJ (wp_seq (jQ [0] (jX [(0, 10, iv 1)] ha fun a ha => ?_))))
 refine jY (jJ (wp_seq (jQ [0, 1, 2, 3] (jX [(0, 85, .slice o4.A o4.n o4.c), (1, 86, iv 1)] ha fun a ha => ?_))))
 refine jZ (jG 87 (vs := [.slice o4.A o4.n o4.c, iv 1]) ha (heldI_sat hS (hS.rdRow (s := o4) 2 rfl) (Nat.le_trans (mendP_len ..) (by decide))) fun v30 w a hp31 ha => ?_)
 obtain ⟨rfl, hS⟩ := hp31
 refine jX [(3, 10, iv (1 + (((mendP es).1).length : Int)))] ha fun a ha => ?_
 refine jY (jJ (wp_seq (wp_seq (jQ [0, 1] (jX [(0, 88, iv (1 + (((mendP es).1).length : Int)))] ha fun a ha => ?_)))))
 refine jU (.bool false) ha ((qW (v := .bool (decide (1 + (((mendP es).1).length : Int) < 0))) ha (xX (op := (Op.binOp BinOp.lss 3 (Operand.tmp 88) (Operand.const (Value.int IntKind.i64 0)) 3)) (d := some 89) (ty := 4)) (by kernel_rfl) (fun _ => by kernel_rfl)).as (by rw [decide_eq_false (by omega)])) fun a ha => ?_
 refine jY (jJ ?_)
 refine jK ha rfl rfl ?_
 refine wp_skip (jJ (wp_seq (wp_seq (jQ [0, 1, 2] (jX [(0, 90, iv (1 + (((mendP es).1).length : Int))), (1, 91, iv (1 + (((mendP es).1).length : Int)))] ha fun a ha => ?_)))))
 refine jU (.bool false) ha ((qW (v := .bool (!(decide (1 + (((mendP es).1).length : Int) = 1 + (((mendP es).1).length : Int))))) ha (xX (op := (Op.binOp BinOp.neq 3 (Operand.tmp 90) (Operand.tmp 91) 3)) (d := some 92) (ty := 4)) (by kernel_rfl) (fun _ => by kernel_rfl)).as (by simp)) fun a ha => ?_
 refine jY (jJ ?_)
 refine jK ha rfl rfl ?_
 refine wp_skip (jJ (wp_seq (jQ [0] (jX [(0, 2, .bool true)] ha fun a ha => ?_))))
 refine jY (jJ (wp_ret (jV ha (by kernel_rfl) (qX (t := 2) ha rfl) ?_)))
 exact ⟨rfl, hS.below⟩
end Go.Proofs.Ytbgfiiehjaghiaa.G
