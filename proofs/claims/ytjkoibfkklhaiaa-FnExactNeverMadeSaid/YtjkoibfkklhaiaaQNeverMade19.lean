/- What the claim FnExactNeverMade rests on, part 19 of 22; the last part proves it: for every input the law answers true, and its arguments read behind the call as before it. No condition. -/
import Derived.Maps.RangeRun
import Derived.Laws.IdiomRangeMap
import Derived.Test.YtjkoibfkklhaiaaQNeverMade17
set_option linter.unusedVariables false
namespace Go.Proofs.Ytjkoibfkklhaiaa.SX
open Go.RowKit
section
variable {P : Program} {R : Array Oper} {Q : Exit → Act → World → Prop} {n : Nat} {e : Env} {a : Act} {w w0 : World} {Rs : List Asn}
theorem o_range {i d : Nat} {t k9 v9 : TypeId} {x : Operand} {ty : TypeId} {b clock : Nat} {es : Array MapEntry} {K : Act → World → Prop} (p : Nat) (h : Has n e a) (hd : d < n) (ho : AtW R i (.range t x) (some d) ty a)
  (hx : ev e x = some (.map (some b))) (ht : P.underlying t = some (.map k9 v9)) (hS : Sat w0 w Rs) (hp : Rs[p]? = some (SX.obj b (.map es clock)))
  (kk : ∀ bi w' a', Sat w0 w' (SX.obj bi (.mapIter (some b) clock #[] clock) :: Rs) → Has n ((d, .pointer (some ⟨bi, 0, none⟩)) :: e) a' → K a' w') : wpOp P R Q i K a w := by
 have hb := hS.obj p hp
 refine o_val (v := .pointer (some ⟨w.heap.size, 0, none⟩)) (w' := w.alloc (.mapIter (some b) clock #[] clock)) h hd ho (by simp [covers, Op.operands, hx, notSelect]) ?_ fun a' ha => kk _ _ a' (hS.allocO _) ha
 have hr := run_range_map (P := P) w t k9 v9 b es clock ht hb
 simp [execOp, opr, evD, hx, hr]
theorem o_next {i d : Nat} {x : Operand} {ty : TypeId} {b bi clock since c0 : Nat} {seen : Array Nat} {es : Array MapEntry} {K : Act → World → Prop} (p q : Nat) (h : Has n e a) (hd : d < n) (ho : AtW R i (.next x false) (some d) ty a)
    (hx : ev e x = some (.pointer (some ⟨bi, 0, none⟩))) (hS : Sat w0 w Rs) (hp : Rs[p]? = some (SX.obj b (.map es clock))) (hq : Rs[q]? = some (SX.obj bi (.mapIter (some b) since seen c0))) (hst : ∀ x ∈ es.toList, x.born < since) (hsc : since ≤ c0)
    (k0 : (leftOf es seen).size = 0 → ∀ a', Has n ((d, .tuple #[.bool false]) :: e) a' → K a' w)
    (k1 : ∀ (e0 : MapEntry) w' a', e0 ∈ (leftOf es seen).toList → Sat w0 w' (Rs.set q (SX.obj bi (.mapIter (some b) since (seen.push e0.born) clock))) → Has n ((d, .tuple #[.bool true, e0.key, e0.val]) :: e) a' → K a' w') : wpOp P R Q i K a w := by
  have hb := hS.obj p hp
  have hr := hS.obj q hq
  rcases run_next_at (P := P) w ty bi b since c0 seen es clock hr hb hst hsc with ⟨h0, hrun⟩ | ⟨e0, he, w1, hal, hrun⟩
  · exact o_val (v := .tuple #[.bool false]) (w' := w) h hd ho (by simp [covers, Op.operands, hx, notSelect]) (by simp [execOp, opr, evD, hx, hrun]) fun a' ha => k0 h0 a' ha
  · refine o_val (v := .tuple #[.bool true, e0.key, e0.val]) (w' := Go.ChangeMaps.setBlock w1 bi (.mapIter (some b) since (seen.push e0.born) clock)) h hd ho (by simp [covers, Op.operands, hx, notSelect]) (by simp [execOp, opr, evD, hx, hrun]) fun a' ha => k1 e0 _ a' he ?_ ha
    have hS1 : Sat w0 w1 Rs := by
      rcases hal with rfl | rfl
      · exact hS
      · exact hS.drew
    refine hS1.upd hq _ rfl rfl rfl (by simp [Go.ChangeMaps.setBlock]) fun F hF => ⟨F, ⟨hF.1, ?_⟩, fun _ hb => .inl hb, fun k _ hF' => ?_⟩
    · have hlt := (Array.getElem?_eq_some_iff.1 hF.2).1
      simp [Go.ChangeMaps.setBlock, hlt]
    · have : k ≠ bi := fun e => hF' ((hF.1 k).2 e)
      simp [Go.ChangeMaps.setBlock, Array.getElem?_setIfInBounds_ne (Ne.symm this)]
theorem o_next0 {i d : Nat} {x : Operand} {ty : TypeId} {b bi clock : Nat} {seen : Array Nat} {es : Array MapEntry} {pl : List (Int × Int)} {K : Act → World → Prop} (p q : Nat) (h : Has n e a) (hd : d < n) (ho : AtW R i (.next x false) (some d) ty a)
  (hx : ev e x = some (.pointer (some ⟨bi, 0, none⟩))) (hS : Sat w0 w Rs) (hp : Rs[p]? = some (SX.obj b (.map es clock))) (hq : Rs[q]? = some (SX.obj bi (.mapIter (some b) clock seen clock))) (hes : MapIs es clock pl)
  (h0 : decide ((leftOf es seen).size = 0) = true) (kk : ∀ a', Has n ((d, .tuple #[.bool false]) :: e) a' → K a' w) : wpOp P R Q i K a w :=
 o_next p q h hd ho hx hS hp hq hes.st.1 (Nat.le_refl _) (fun _ => kk) fun e0 w' a' he => by
  have h1 := of_decide_eq_true h0
  rw [← Array.length_toList] at h1
  rw [List.eq_nil_of_length_eq_zero h1] at he
  exact absurd he List.not_mem_nil
theorem o_next1 {i d : Nat} {x : Operand} {ty : TypeId} {b bi clock : Nat} {seen : Array Nat} {es : Array MapEntry} {pl : List (Int × Int)} {K : Act → World → Prop} (p q : Nat) (h : Has n e a) (hd : d < n) (ho : AtW R i (.next x false) (some d) ty a)
  (hx : ev e x = some (.pointer (some ⟨bi, 0, none⟩))) (hS : Sat w0 w Rs) (hp : Rs[p]? = some (SX.obj b (.map es clock))) (hq : Rs[q]? = some (SX.obj bi (.mapIter (some b) clock seen clock))) (hes : MapIs es clock pl)
  (h0 : decide ((leftOf es seen).size = 0) = false)
  (kk : ∀ (e0 : MapEntry) (z : Int × Int) w' a', e0 ∈ (leftOf es seen).toList → z ∈ pl → e0.key = keyV z → e0.val = .bool true → Sat w0 w' (Rs.set q (SX.obj bi (.mapIter (some b) clock (seen.push e0.born) clock))) → Has n ((d, .tuple #[.bool true, e0.key, e0.val]) :: e) a' → K a' w') : wpOp P R Q i K a w :=
 o_next p q h hd ho hx hS hp hq hes.st.1 (Nat.le_refl _) (fun h1 => absurd h1 (of_decide_eq_false h0)) fun e0 w' a' he hS' ha' => by
  have h1 : e0 ∈ es.toList := by
   unfold leftOf at he;rw [Array.toList_filter, List.mem_filter] at he;exact he.1
  obtain ⟨z, hz, hk, hv⟩ := hes.keys e0 h1
  exact kk e0 z w' a' he hz hk hv hS' ha'
theorem v_entry {S : World → Prop} {i d : Nat} {x : Operand} {ty : TypeId} {b bi clock since : Nat} {seen : Array Nat} {es : Array MapEntry} {e0 : MapEntry} {z : Int × Int} (h : Has n e a) (ho : AtW R i (.entry x) (some d) ty a) (hx : ev e x = some (.pointer (some ⟨bi, 0, none⟩)))
  (hk : e0.key = keyV z) (hv : e0.val = .bool true) (hn : (es.toList.map (·.born)).Nodup) (he : e0 ∈ es.toList) (hw : ∀ w, S w → w.heap[bi]? = some (.mapIter (some b) since (seen.push e0.born) clock) ∧ w.heap[b]? = some (.map es clock)) : Val P R i a S d (.tuple #[.agg #[.int .i64 z.1, .int .i64 z.2], .bool true]) :=
 Val.of_run ho fun o w h1 h2 hS => by
  rw [exec_eq h h1 h2 (by simp [covers, Op.operands, hx, notSelect])]
  obtain ⟨k1, k2⟩ := hw w hS
  have hr := run_entry_at (P := P) w bi b since seen es clock e0 k1 k2 he hn
  rw [hk, hv] at hr
  simp [execOp, opr, evD, hx, hr, keyV]
end
def SeenIs (es : Array MapEntry) (seen : Array Nat) (dn : List (Int × Int)) : Prop := (∀ x ∈ es.toList, seen.contains x.born = true → ∃ q ∈ dn, x.key = keyV q) ∧ ∀ q ∈ dn, ∃ x ∈ es.toList, x.key = keyV q
theorem SeenIs.start (es : Array MapEntry) : SeenIs es #[] [] := ⟨fun x _ h => by simp at h, fun q h => by simp at h⟩
theorem left_mem {es : Array MapEntry} {seen : Array Nat} {e0 : MapEntry} (h : e0 ∈ (leftOf es seen).toList) : e0 ∈ es.toList ∧ seen.contains e0.born = false := by
 unfold leftOf at h
 rw [Array.toList_filter, List.mem_filter] at h
 exact ⟨h.1, by simpa using h.2⟩
theorem SeenIs.next {es : Array MapEntry} {clock : Nat} {pl : List (Int × Int)} {seen : Array Nat} {dn : List (Int × Int)} (hes : MapIs es clock pl) (h : SeenIs es seen dn) {e0 : MapEntry} {q : Int × Int} (he : e0 ∈ es.toList) (hq : e0.key = keyV q) : SeenIs es (seen.push e0.born) (dn ++ [q]) := by
  refine ⟨fun x hx hc => ?_, fun r hr => ?_⟩
  · by_cases hb : x.born = e0.born
    · have : x = e0 := by
        have hn := hes.st.2.1;obtain ⟨i, hi⟩ := List.getElem?_of_mem hx;obtain ⟨j, hj⟩ := List.getElem?_of_mem he;have h1 : (es.toList.map (·.born))[i]? = some x.born := by rw [List.getElem?_map, hi]; rfl
        have h2 : (es.toList.map (·.born))[j]? = some x.born := by rw [List.getElem?_map, hj, hb]; rfl
        have hij : i = j := (List.getElem?_inj (List.getElem?_eq_some_iff.1 h1).1 hn).1 (h1.trans h2.symm);subst hij;rw [hi] at hj;exact Option.some.inj hj
      subst this;exact ⟨q, by simp, hq⟩
    · have : seen.contains x.born = true := by
        simp only [Array.contains_iff_mem, Array.mem_push] at hc ⊢
        rcases hc with hc | hc
        · exact hc
        · exact absurd hc hb
      obtain ⟨r, h1, h2⟩ := h.1 x hx this;exact ⟨r, List.mem_append_left _ h1, h2⟩
  · rcases List.mem_append.1 hr with hr | hr
    · exact h.2 r hr
    · rw [List.mem_singleton.1 hr]; exact ⟨e0, he, hq⟩
theorem SeenIs.done {es : Array MapEntry} {clock : Nat} {pl : List (Int × Int)} {seen : Array Nat} {dn : List (Int × Int)} (hes : MapIs es clock pl) (h : SeenIs es seen dn) (h0 : (leftOf es seen).size = 0) (q : Int × Int) : q ∈ dn ↔ q ∈ pl := by
  constructor
  · intro hq
    obtain ⟨x, hx, hk⟩ := h.2 q hq;obtain ⟨r, hr, hk2, _⟩ := hes.keys x hx;rw [hk] at hk2
    rwa [keyV_inj hk2]
  · intro hq
    obtain ⟨x, hx, hk⟩ := hes.all q hq
    have hs : seen.contains x.born = true := by
      have h1 : leftOf es seen = #[] := Array.eq_empty_of_size_eq_zero h0;unfold leftOf at h1;rw [Array.filter_eq_empty_iff] at h1;have := h1 x (by simpa using hx)
      simpa using this
    obtain ⟨r, hr, hk2⟩ := h.1 x hx hs;rw [hk] at hk2
    rwa [keyV_inj hk2]
theorem left_less {es : Array MapEntry} {seen : Array Nat} {e0 : MapEntry} (h : e0 ∈ (leftOf es seen).toList) : (leftOf es (seen.push e0.born)).size < (leftOf es seen).size := by
 have h1 : leftOf es (seen.push e0.born) = (leftOf es seen).filter fun x => !(x.born == e0.born) := by
  unfold leftOf
  rw [Array.filter_filter]
  congr 1
  funext x
  by_cases hx : x.born = e0.born <;> simp [hx, Array.contains_push]
 have h2 : (Array.filter (fun x : MapEntry => !(x.born == e0.born)) (leftOf es seen)).toList = List.filter (fun x : MapEntry => !(x.born == e0.born)) (leftOf es seen).toList := Array.toList_filter ..
 rw [h1]
 have h3 := congrArg List.length h2
 rw [Array.length_toList] at h3
 rw [h3]
 exact Nat.lt_of_lt_of_eq (List.length_filter_lt_length_iff_exists.2 ⟨e0, h, by simp⟩) Array.length_toList
def mapQ (b : Nat) (S : Int × Int → Prop) : Asn := exA fun x : { pl : List (Int × Int) // ∀ q, q ∈ pl ↔ S q } => xZ b x.1
theorem Sat.openQ {w0 w : World} {Rs : List Asn} {b : Nat} {S : Int × Int → Prop} (p : Nat) (h : Sat w0 w Rs) (hp : Rs[p]? = some (mapQ b S)) : ∃ pl, (∀ q, q ∈ pl ↔ S q) ∧ Sat w0 w (Rs.set p (xZ b pl)) := by
 obtain ⟨⟨pl, h1⟩, h2⟩ := h.open_ p hp
 exact ⟨pl, h1, h2⟩
theorem Sat.shutQ {w0 w : World} {Rs : List Asn} {b : Nat} {S : Int × Int → Prop} {pl : List (Int × Int)} (h : Sat w0 w (xZ b pl :: Rs)) (h1 : ∀ q, q ∈ pl ↔ S q) : Sat w0 w (mapQ b S :: Rs) := h.shut (R := fun x : { pl : List (Int × Int) // ∀ q, q ∈ pl ↔ S q } => xZ b x.1) ⟨pl, h1⟩ 0 rfl
theorem Sat.openA {w0 w : World} {Rs : List Asn} {b : Nat} {pl : List (Int × Int)} (p : Nat) (h : Sat w0 w Rs) (hp : Rs[p]? = some (xZ b pl)) : ∃ es clock, MapIs es clock pl ∧ Sat w0 w (Rs.set p (SX.obj b (.map es clock))) := by
 obtain ⟨⟨⟨es, clock⟩, h1⟩, h2⟩ := h.open_ p hp
 exact ⟨es, clock, h1, h2⟩
end Go.Proofs.Ytjkoibfkklhaiaa.SX
