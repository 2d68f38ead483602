/- What the claim FnExactErrorsOfRun rests on, part 12 of 22; the last part proves it: for every input the law answers true, and its arguments read behind the call as before it. No condition. -/
import Derived.Maps.Keyed
import Derived.DeepKeys4
import Derived.Test.YtcbijhgepdedpaaQErrorsOfRun9
namespace Go.Proofs.Ytcbijhgepdedpaa
namespace SX
open Go.RowKit
def keyV (p : Int × Int) : Value := .agg #[.int .i64 p.1, .int .i64 p.2]
def small (p : Int × Int) : Prop := (-1000 ≤ p.1 ∧ p.1 ≤ 1000) ∧ (-1000 ≤ p.2 ∧ p.2 ≤ 1000)
theorem keyV_inj {p q : Int × Int} (h : keyV p = keyV q) : p = q := by
 simp only [keyV, Value.agg.injEq, Array.mk.injEq, List.cons.injEq, Value.int.injEq, true_and, and_true] at h
 exact Prod.ext h.1 h.2
structure MapIs (es : Array MapEntry) (clock : Nat) (pl : List (Int × Int)) : Prop where
 keys : ∀ x ∈ es.toList, ∃ p ∈ pl, x.key = keyV p ∧ x.val = .bool true
 all : ∀ p ∈ pl, ∃ x ∈ es.toList, x.key = keyV p
 st : MapKept.Stamped es clock
 sm : ∀ p ∈ pl, small p
def yY (b : Nat) (pl : List (Int × Int)) : Asn := exA fun x : { x : Array MapEntry × Nat // MapIs x.1 x.2 pl } => obj b (.map x.1.1 x.1.2)
section
variable {P : Program} {w w0 : World} {kt e mt v : TypeId} {Rs : List Asn}
theorem keyOf2 {D : Nat} (hk : P.underlying kt = some (.array 2 e)) (he : P.underlying e = some (.int .i64)) (hkt : P.keyType kt = true) (hck : P.cellsOf kt = 2) (hce : P.cellsOf e = 1) (hD : P.types.size = D + 1) (p : Int × Int) (hp : small p) : ∃ l, keyOf P kt (keyV p) = some l := by
 obtain ⟨⟨h1, h2⟩, h3, h4⟩ := hp
 have w1 : (Lit.int .i64 p.1).wf = true := by simp [Lit.wf, IntKind.min, IntKind.max, IntKind.bits, IntKind.signed]; omega
 have w2 : (Lit.int .i64 p.2).wf = true := by simp [Lit.wf, IntKind.min, IntKind.max, IntKind.bits, IntKind.signed]; omega
 have hr : List.range 2 = [0, 1] := rfl
 exact ⟨.string (keyBytes [.int .i64 p.1, .int .i64 p.2]), by simp [keyOf, hk, hkt, Value.formed, keyV, hck, Program.keyLits, hD, he, hce, hr, w1, w2, Value.cells]⟩
theorem run_mapUpdate (K : WideMaps.KeyLaw P kt) (hm : P.underlying mt = some (.map kt v)) (hkey : ∀ p, small p → ∃ l, keyOf P kt (keyV p) = some l) {es : Array MapEntry} {clock b : Nat} {pl : List (Int × Int)} (hb : w.heap[b]? = some (.map es clock)) (hes : MapIs es clock pl) (p : Int × Int) (hp : small p) :
    ∃ es' clock', (Instr.mapUpdate mt (.map (some b)) (keyV p) (.bool true)).run P w = .ok () { w with heap := w.heap.setIfInBounds b (.map es' clock') } ∧ MapIs es' clock' (pl ++ [p]) := by
  obtain ⟨l, hl⟩ := hkey p hp
  have hks : ∀ x ∈ es.toList, ∃ l, keyOf P kt x.key = some l := fun x hx => by
    obtain ⟨q, hq, hxk, _⟩ := hes.keys x hx;rw [hxk];exact hkey q (hes.sm q hq)
  have hsm : ∀ q ∈ pl ++ [p], small q := fun q hq => by
    rcases List.mem_append.1 hq with hq | hq
    · exact hes.sm q hq
    · rw [List.mem_singleton.1 hq]; exact hp
  rcases K.find w hl es.toList hks with ⟨h1, h2⟩ | ⟨j, e0, h1, h2, h3⟩
  · refine ⟨es.push ⟨keyV p, .bool true, clock⟩, clock + 1, by simp [Instr.mapUpdate, run_underlying hm, MapKept.run_getObj_map hb, K.check w false hl, h1, MapKept.run_setObj_map _ hb, Result.andThen], ?_, ?_, ?_, hsm⟩
    · intro x hx
      simp only [Array.toList_push, List.mem_append, List.mem_singleton] at hx
      rcases hx with hx | rfl
      · obtain ⟨q, hq, hx1, hx2⟩ := hes.keys x hx
        exact ⟨q, List.mem_append_left _ hq, hx1, hx2⟩
      · exact ⟨p, by simp, rfl, rfl⟩
    · intro q hq
      rcases List.mem_append.1 hq with hq | hq
      · obtain ⟨x, hx, hxk⟩ := hes.all q hq
        exact ⟨x, by simp [Array.toList_push, hx], hxk⟩
      · rw [List.mem_singleton.1 hq]
        exact ⟨⟨keyV p, .bool true, clock⟩, by simp [Array.toList_push], rfl⟩
    · exact MapKept.stamped_push hes.st h2
  · have hj : es[j]? = some e0 := by simpa using h2
    have hst : (Instr.keyThatStays (keyV p) (keyV p)).run P w = .ok (keyV p) w := K.stays w hl;have hlt : j < es.size := (Array.getElem?_eq_some_iff.1 hj).1;have hmod : (es.modify j (fun e' => { e' with key := keyV p, val := .bool true })).toList = es.toList.set j { e0 with key := keyV p, val := .bool true } := by rw [Array.toList_modify, modify_get h2]
    have he0 := List.mem_of_getElem? h2;refine ⟨es.modify j (fun e' => { e' with key := keyV p, val := .bool true }), clock, ?_, ?_, ?_, ?_, hsm⟩
    · simp [Instr.mapUpdate, run_underlying hm, MapKept.run_getObj_map hb, K.check w false hl, h1, hj, h3, hst, MapKept.run_setObj_map _ hb, Result.andThen]
    · intro x hx
      rw [hmod] at hx
      rcases List.mem_or_eq_of_mem_set hx with hx | rfl
      · obtain ⟨q, hq, hx1, hx2⟩ := hes.keys x hx
        exact ⟨q, List.mem_append_left _ hq, hx1, hx2⟩
      · exact ⟨p, by simp, rfl, rfl⟩
    · intro q hq
      have main : ∀ q ∈ pl, ∃ x ∈ es.toList.set j { e0 with key := keyV p, val := .bool true }, x.key = keyV q := fun q hq => by
        obtain ⟨x, hx, hxk⟩ := hes.all q hq;obtain ⟨i, hi⟩ := List.getElem?_of_mem hx
        by_cases hij : i = j
        · subst hij
          rw [h2] at hi
          injection hi with hi
          subst hi;exact ⟨_, List.mem_set (by simpa using hlt) _, by rw [← hxk, h3]⟩
        · refine ⟨x, List.mem_of_getElem? (i := i) ?_, hxk⟩
          rw [List.getElem?_set_ne (Ne.symm hij)];exact hi
      rw [hmod]
      rcases List.mem_append.1 hq with hq | hq
      · exact main q hq
      · rw [List.mem_singleton.1 hq]
        obtain ⟨q', hq', hk', _⟩ := hes.keys e0 he0;rw [h3] at hk';have := main q' hq'
        rwa [keyV_inj hk'.symm] at this
    · exact MapKept.stamped_modify hes.st _ _ (fun _ _ => rfl) fun e1 _ he1 => by rw [hj] at he1; obtain rfl := Option.some.inj he1; exact h3.symm
end
section
variable {P : Program} {R : Array Oper} {Q : Exit → Act → World → Prop} {n : Nat} {e : Env} {a : Act} {w w0 : World} {Rs : List Asn}
theorem o_mapSet {i : Nat} {mt kt vt : TypeId} {x y z : Operand} {ty : TypeId} {b : Nat} {q : Int × Int} {pl : List (Int × Int)} {K : Act → World → Prop} (p : Nat) (h : Has n e a) (ho : AtW R i (.mapUpdate mt x y z) none ty a)
    (hx : ev e x = some (.map (some b))) (hy : ev e y = some (keyV q)) (hz : ev e z = some (.bool true)) (L : WideMaps.KeyLaw P kt) (hm : P.underlying mt = some (.map kt vt)) (hkey : ∀ p, small p → ∃ l, keyOf P kt (keyV p) = some l) (hS : Sat w0 w Rs)
    (hp : Rs[p]? = some (yY b pl)) (hq : small q) (k : ∀ w' a', Sat w0 w' (Rs.set p (yY b (pl ++ [q]))) → Has n e a' → K a' w') : wpOp P R Q i K a w := by
  obtain ⟨⟨⟨es, clock⟩, hes⟩, hS2⟩ := hS.open_ p hp
  have hpl : p < Rs.length := (List.getElem?_eq_some_iff.1 hp).1
  have hb := hS2.obj p (by rw [List.getElem?_set_self hpl])
  obtain ⟨es', clock', hr, hes'⟩ := run_mapUpdate (w := w) L hm hkey hb hes q hq
  refine o_skip h ho (by simp [covers, Op.operands, hx, hy, hz, notSelect]) (w' := { w with heap := w.heap.setIfInBounds b (.map es' clock') }) ?_ fun a' ha => k _ a' ?_ ha
  · simp [execOp, opr, evD, hx, hy, hz, hr]
  · have h3 := hS2.upd (w' := { w with heap := w.heap.setIfInBounds b (.map es' clock') }) (i := p) (R := SX.obj b (.map es clock)) (by rw [List.getElem?_set_self hpl]) (SX.obj b (.map es' clock')) rfl rfl rfl (by simp) fun F hF => ⟨F, ⟨hF.1, ?_⟩, fun _ hb => .inl hb, fun k _ hF' => ?_⟩
    · rw [List.set_set] at h3
      have h4 := h3.shut (R := fun x : { x : Array MapEntry × Nat // MapIs x.1 x.2 (pl ++ [q]) } => SX.obj b (.map x.1.1 x.1.2)) ⟨(es', clock'), hes'⟩ p (by rw [List.getElem?_set_self hpl]);rw [List.set_set] at h4;exact h4
    · have hlt := (Array.getElem?_eq_some_iff.1 hF.2).1
      simp [hlt]
    · have : k ≠ b := fun e => hF' ((hF.1 k).2 e)
      exact Array.getElem?_setIfInBounds_ne (Ne.symm this)
end
end SX
end Go.Proofs.Ytcbijhgepdedpaa
