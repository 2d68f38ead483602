/- What the claim FnExactErrorsOfRun rests on, part 18 of 22; the last part proves it: for every input the law answers true, and its arguments read behind the call as before it. No condition. -/
import Derived.Test.YtcbijhgepdedpaaQErrorsOfRun8
import Derived.Test.YtcbijhgepdedpaaQErrorsOfRun9
import Derived.Test.YtcbijhgepdedpaaQErrorsOfRun12
import Derived.Test.YtcbijhgepdedpaaQErrorsOfRun13
import Derived.Test.YtcbijhgepdedpaaQErrorsOfRun14
import Derived.Test.YtcbijhgepdedpaaQErrorsOfRun15
import Derived.Test.YtcbijhgepdedpaaQErrorsOfRun17
set_option linter.unusedSimpArgs false
set_option linter.unusedVariables false
set_option maxRecDepth 20000
set_option maxHeartbeats 1000000
namespace Go.Proofs.Ytcbijhgepdedpaa
namespace SX
open Go.RowKit Go.Proofs.Ytcbijhgepdedpaa.G Go.Proofs.YtcbijhgepdedpaaW.PrintWords Go.Proofs.YtcbijhgepdedpaaW.PrintLast Go.Proofs.YtcbijhgepdedpaaW.PrintMore
abbrev GS := S98
def toStp (x : GS) : Stp := ⟨x.f0, x.f1, x.f2⟩
def PL (l : List (List GS)) : List (List Stp) := l.map (·.map toStp)
theorem PL_length (l : List (List GS)) : (PL l).length = l.length := by simp [PL]
theorem stepB_ok {n : Nat} {k a b : Int} (h : stepB n k a b = true) : StpOk n ⟨k, a, b⟩ := by
  simp only [stepB, Bool.and_eq_true, decide_eq_true_eq] at h
  obtain ⟨⟨⟨h1, h2⟩, h3⟩, h4⟩ := h
  refine ⟨h1, h2, fun n4 n5 n10 n11 => ?_, fun hk => ?_, fun hk => ?_, fun hk => ?_, fun hk => ?_⟩
  · dsimp only at n4 n5 n10 n11 ⊢
    rw [if_neg (by omega), if_neg n11, if_neg n10] at h3;simp only [regB, Bool.and_eq_true, decide_eq_true_eq] at h3;exact h3
  · dsimp only at hk ⊢
    rw [if_neg (by omega), if_pos hk] at h4;simp only [regB, Bool.and_eq_true, decide_eq_true_eq] at h4;exact h4
  · dsimp only at hk ⊢
    rw [if_pos hk] at h3;simp only [Bool.and_eq_true, decide_eq_true_eq] at h3
    omega
  · dsimp only at hk ⊢
    rw [if_neg (by omega), if_pos hk] at h3;simp only [Bool.and_eq_true, decide_eq_true_eq] at h3;exact h3
  · dsimp only at hk ⊢
    rw [if_pos hk] at h4;simp only [numB, Bool.and_eq_true, decide_eq_true_eq] at h4;exact h4
theorem progOk_of {l : List (List GS)} (h : programB l = true) : ProgOk (PL l) := by
  simp only [programB, bodyB, Bool.and_eq_true, decide_eq_true_eq, List.all_eq_true] at h
  obtain ⟨⟨h1, h2⟩, h3⟩ := h
  refine ⟨by rw [PL_length]; exact h1, by rw [PL_length]; exact h2, fun b hb => ?_, fun b hb s hs => ?_⟩
  · obtain ⟨b', hb', rfl⟩ := List.mem_map.1 hb
    rw [List.length_map];exact (h3 b' hb').1
  · obtain ⟨b', hb', rfl⟩ := List.mem_map.1 hb
    obtain ⟨s', hs', rfl⟩ := List.mem_map.1 hs;rw [PL_length];exact stepB_ok ((h3 b' hb').2 s' hs')
theorem cell_lt {w : World} {p : Addr} {v : Value} (h : w.cell? p = some v) : p.block < w.heap.size := by
 unfold World.cell? at h
 split at h
 · rename_i h'; exact (Array.getElem?_eq_some_iff.1 h').1
 · cases h
theorem cell_below {w w' : World} {p : Addr} {v : Value} (h : w.cell? p = some v) (hb : Below w.heap.size w w') : w'.cell? p = some v := by
 rw [← h]
 unfold World.cell?
 rw [hb.block _ (cell_lt h)]
theorem RdBody.below {w w' : World} {s : Sl} {b : List Stp} (h : RdBody w s b) (hb : Below w.heap.size w w') : RdBody w' s b := ⟨h.len, h.A, fun j x hx => cell_below (h.k j x hx) hb, fun j x hx => cell_below (h.a j x hx) hb, fun j x hx => cell_below (h.b j x hx) hb⟩
theorem RdProg.below {w w' : World} {pv : Sl} {sbs : List Sl} {P : List (List Stp)} (h : RdProg w pv sbs P) (hb : Below w.heap.size w w') : RdProg w' pv sbs P :=
 ⟨h.len, h.A, fun i b hi => let ⟨s, h1, h2, h3⟩ := h.rows i b hi; ⟨s, h1, cell_below h2 hb, h3.below hb⟩⟩
theorem RdProg.keeps {w : World} {pv : Sl} {sbs : List Sl} {P : List (List Stp)} (h : RdProg w pv sbs P) (Rs : List Asn) : Keeps w Rs (fun w => RdProg w pv sbs P) := fun w' hS => h.below hS.below
theorem rdBody_of {w : World} {A : Option Addr} {c : Nat} {l : List GS} (hr : Kd.C k98 w A l.length l) : RdBody w ⟨A, l.length, c⟩ (l.map toStp) := by
  obtain ⟨_, _, h3⟩ := hr
  have key : ∀ (j : Nat) (x : GS), l[j]? = some x → A = some ⟨bk ⟨A, l.length, c⟩, of_ ⟨A, l.length, c⟩, none⟩ ∧ ∀ i u, (encT x)[i]? = some u → w.cell? ⟨bk ⟨A, l.length, c⟩, of_ ⟨A, l.length, c⟩ + j * 3 + i, none⟩ = some u := by
    intro j x hj;have hjl : j < l.length := (List.getElem?_eq_some_iff.1 hj).1;obtain ⟨ad, hA, hcells⟩ := h3 (by omega)
    have key : ∀ (j : Nat) (x : GS), l[j]? = some x → ∀ i u, (encT x)[i]? = some u → w.cell? (ad.add (j * 3 + i)) = some u := fun j x hj i u hu => by
      obtain ⟨cs, _, hk, hu'⟩ := hcells j x hj;rw [k98_open hk] at hu';exact hu' i u hu
    have h0 := key 0 _ (List.getElem?_eq_getElem (by omega)) 0 _ rfl;have hspot := spot_of_cell h0;obtain ⟨b, off, sp⟩ := ad;subst hspot;subst hA;refine ⟨rfl, fun i u hu => ?_⟩;have := key j x hj i u hu;rw [add0, ← Nat.add_assoc] at this;exact this
  have get : ∀ (j : Nat) (x : Stp), (l.map toStp)[j]? = some x → ∃ y : GS, l[j]? = some y ∧ toStp y = x := fun j x hx => by
    rw [List.getElem?_map] at hx;exact Option.map_eq_some_iff.1 hx
  refine ⟨by simp, fun hp => ?_, fun j x hx => ?_, fun j x hx => ?_, fun j x hx => ?_⟩
  · rw [List.length_map] at hp
    exact (key 0 _ (List.getElem?_eq_getElem hp)).1
  · obtain ⟨y, hy, rfl⟩ := get j x hx
    exact (key j y hy).2 0 _ rfl
  · obtain ⟨y, hy, rfl⟩ := get j x hx
    exact (key j y hy).2 1 _ rfl
  · obtain ⟨y, hy, rfl⟩ := get j x hx
    exact (key j y hy).2 2 _ rfl
theorem rdProg_of {w : World} {A : Option Addr} {c : Nat} {l : List (List GS)} (hr : Kd.C (Kd.slice 98 k98) w A l.length l) : ∃ sbs, RdProg w ⟨A, l.length, c⟩ sbs (PL l) := by
  have hb := bodies_cells (s := ⟨A, l.length, c⟩) hr
  have hs : ∀ j : Nat, ∃ s : Sl, ∀ b, l[j]? = some b → w.cell? ⟨bk ⟨A, l.length, c⟩, of_ ⟨A, l.length, c⟩ + j, none⟩ = some s.v ∧ RdBody w s (b.map toStp) := by
    intro j;cases hj : l[j]? with
    | none => exact ⟨⟨none, 0, 0⟩, fun b h => by cases h⟩
    | some b =>
      obtain ⟨_, A', c', h1, h2, h3⟩ := hb j b hj;exact ⟨⟨A', b.length, c'⟩, fun b' h => by cases h; exact ⟨h1, rdBody_of h3⟩⟩
  have hs2 : ∃ f : Nat → Sl, ∀ j b, l[j]? = some b → w.cell? ⟨bk ⟨A, l.length, c⟩, of_ ⟨A, l.length, c⟩ + j, none⟩ = some (f j).v ∧ RdBody w (f j) (b.map toStp) := ⟨fun j => (hs j).choose, fun j => (hs j).choose_spec⟩
  obtain ⟨f, hf⟩ := hs2
  refine ⟨(List.range l.length).map f, (PL_length l).symm, fun hp => ?_, fun i b hi => ?_⟩
  · rw [PL_length] at hp
    exact (hb 0 _ (List.getElem?_eq_getElem hp)).1
  · rw [PL, List.getElem?_map] at hi
    obtain ⟨y, hy, rfl⟩ := Option.map_eq_some_iff.1 hi;have hlt := (List.getElem?_eq_some_iff.1 hy).1;exact ⟨f i, by rw [List.getElem?_map, List.getElem?_range hlt]; rfl, hf i y hy⟩
section
variable {w0 w : World} {Rs : List Asn}
theorem drawn_sat (hS : Sat w0 w Rs) {w' : World} (h : Drawn0 w w') : Sat w0 w' Rs := by
 obtain ⟨q, rfl⟩ := h.out
 exact hS.grows ⟨rfl, rfl, rfl, Nat.le_refl _, fun _ _ => rfl⟩
def inB (x lo hi : Int) : Bool := decide (lo ≤ x) && decide (x ≤ hi)
theorem in_sat (hS : Sat w0 w Rs) (x lo hi : Int) : Calls Try.prog 67 #[.int .i64 x, .int .i64 lo, .int .i64 hi] w (Ret fun r w' => r = .bool (inB x lo hi) ∧ Sat w0 w' Rs) := by
 refine (impl_in.calls x lo hi _ w (in_eq x lo hi)).mono ?_
 rintro e w' ⟨rfl, hd⟩
 exact ⟨rfl, drawn_sat hS hd⟩
theorem num_sat (hS : Sat w0 w Rs) (x : Int) : Calls Try.prog 76 #[.int .i64 x] w (Ret fun r w' => r = .bool (numB x) ∧ Sat w0 w' Rs) := by
 refine (impl_isNumber.calls x _ w (num_eq x)).mono ?_
 rintro e w' ⟨rfl, hd⟩
 exact ⟨rfl, drawn_sat hS hd⟩
theorem prog_sat (hS : Sat w0 w Rs) {A : Option Addr} {c : Nat} {l : List (List GS)} (hr : Kd.C (Kd.slice 98 k98) w A l.length l) (hc : l.length ≤ c) : Calls Try.prog 75 #[.agg #[.slice A l.length c]] w (Ret fun r w' => r = .bool (programB l) ∧ Sat w0 w' Rs) := by
 refine (impl_IsProgram.calls A c l _ w hr hc rfl).mono ?_
 rintro e w' ⟨rfl, hb⟩
 exact ⟨rfl, hS.grows hb⟩
end
structure RunR where
 m : MS
 k : Int
 v : Int
def runOf (res : R3) : RunR := match res with
 | .spent m => ⟨m, 4, 0⟩
 | .done m f _ => ⟨if f.en = 2 then { m with panics := panAt m.panics f.pan (fun x => { x with fate := 3 }) } else m, f.en, (m.calls.getD 0 ⟨0, 0, false, 0, 0, 0⟩).val⟩
def runS (P : List (List Stp)) (shared f arg fuel : Int) : RunR := runOf (callS P fuel 8 (MS.start shared) f arg none 0 false)
def askB (l : List (List GS)) (f arg fuel : Int) : Bool := programB l && inB f 0 ((l.length : Int) - 1) && numB arg && inB fuel 0 200
theorem start_ok {fuel : Int} (shared : Int) (h0 : 0 ≤ fuel) (h1 : fuel ≤ 200) : OkM fuel (MS.start shared) (10 + 2) := by
 refine ⟨Int.le_refl _, h0, h1, ?_, rfl, Nat.le_refl _, Nat.le_refl _, Nat.le_refl _, fun p hp => by simp [MS.start] at hp⟩
 simp only [MS.start, List.length_nil]
 omega
def mblkO (pv : Sl) (fuel : Int) (m : MS) (s : MSl) (k v : Int) : List Value :=
 [pv.v, .int .i64 fuel, .int .i64 m.made, .int .i64 m.shared, .int .i64 m.depth, .int .i64 m.deepest, s.tr.v, s.ow.v, s.ca.v, s.pa.v, s.re.v, .map (some s.bp), .int .i64 k, .int .i64 v, s.tr.v, .int .i64 m.made]
def mchOL (b : Nat) (pv : Sl) (fuel : Int) (r : RunR) (s : MSl) : List Asn := blk b (mblkO pv fuel r.m s r.k r.v) 91 :: mrest r.m s
def mchO (b : Nat) (pv : Sl) (fuel : Int) (r : RunR) : Asn := exA fun s : { s : MSl // s.us.map (·.1) = r.m.panics } => jW (mchOL b pv fuel r s.1)
theorem Sat.openMO {w0 w : World} {Rs : List Asn} {b : Nat} {pv : Sl} {fuel : Int} {r : RunR} (h : Sat w0 w (mchO b pv fuel r :: Rs)) : ∃ s : MSl, s.us.map (·.1) = r.m.panics ∧ Sat w0 w (mchOL b pv fuel r s ++ Rs) := by
 obtain ⟨⟨s, hs⟩, h⟩ := h.open_ 0 rfl
 exact ⟨s, hs, h.split⟩
theorem Sat.shutMO {w0 w : World} {Rs : List Asn} {b : Nat} {pv : Sl} {fuel : Int} {r : RunR} (s : MSl) (hs : s.us.map (·.1) = r.m.panics) (h : Sat w0 w (mchOL b pv fuel r s ++ Rs)) : Sat w0 w (mchO b pv fuel r :: Rs) := h.merge.shut (R := fun s : { s : MSl // s.us.map (·.1) = r.m.panics } => jW (mchOL b pv fuel r s.1)) ⟨s, hs⟩ 0 rfl
section
variable {P : Program} {R : Array Oper} {Q : Exit → Act → World → Prop} {n : Nat} {e : Env} {a : Act} {w w0 : World} {Rs : List Asn}
theorem o_makeMap {i d : Nat} {t ty : TypeId} {K : Act → World → Prop} (h : Has n e a) (hd : d < n) (ho : AtW R i (.makeMap t none) (some d) ty a) (hS : Sat w0 w Rs)
  (k : ∀ b w' a', w0.heap.size ≤ b → Sat w0 w' (yY b [] :: Rs) → Has n ((d, .map (some b)) :: e) a' → K a' w') : wpOp P R Q i K a w := by
 refine o_val (v := .map (some w.heap.size)) (w' := w.alloc (.map #[] 0)) h hd ho (by simp [covers, Op.operands, notSelect]) (by simp [execOp, opr, Instr.makeMap]) fun a' ha => k w.heap.size _ a' hS.below.size ?_ ha
 have h1 := hS.allocO (.map #[] 0)
 exact h1.shut (R := fun x : { x : Array MapEntry × Nat // MapIs x.1 x.2 [] } => SX.obj w.heap.size (.map x.1.1 x.1.2)) ⟨(#[], 0), ⟨fun x hx => by simp at hx, fun p hp => by simp at hp, MapKept.stamped_empty _, fun p hp => by simp at hp⟩⟩ 0 rfl
end
theorem mch_start {w0 w : World} {Rs : List Asn} {bm bp : Nat} {pv : Sl} {fuel shared : Int} (h : Sat w0 w (SX.blk bm [pv.v, .int .i64 fuel, .int .i64 0, .int .i64 shared, .int .i64 0, .int .i64 0, .slice none 0 0, .slice none 0 0, .slice none 0 0, .slice none 0 0, .slice none 0 0, .map (some bp), .int .i64 0, .int .i64 0, .slice none 0 0, .int .i64 0] 91 :: yY bp [] :: Rs)) :
  Sat w0 w (mch bm pv fuel (MS.start shared) :: Rs) := by
 have h1 := Sat.nilRow (T := 57) (sz := 3) h
 have h2 := Sat.nilRow (T := 3) (sz := 1) h1
 have h3 := Sat.nilRow (T := 147) (sz := 6) h2
 have h4 := Sat.nilRow (T := 113) (sz := 9) h3
 have h5 := Sat.nilRow (T := 204) (sz := 3) h4
 have h6 : Sat w0 w (jW [] :: row (.slice none 0 0) 204 3 [] :: row (.slice none 0 0) 113 9 [] :: row (.slice none 0 0) 147 6 [] :: row (.slice none 0 0) 3 1 [] :: row (.slice none 0 0) 57 3 [] :: _ :: _ :: Rs) := Sat.merge (l := []) h5
 refine Sat.shutM ⟨⟨none, 0, 0⟩, ⟨none, 0, 0⟩, ⟨none, 0, 0⟩, ⟨none, 0, 0⟩, ⟨none, 0, 0⟩, [], bp⟩ rfl ?_
 exact h6.pickR (l := [_, _, _, _, _, _, _, _]) [6, 5, 4, 3, 2, 0, 1, 7] (by decide) _ rfl
theorem first_done {P : List (List Stp)} (hP : ProgOk P) {fuel : Int} {bm : Nat} {pv : Sl} {sbs : List Sl} {w0 w : World} {Rs : List Asn} {m : MS} {fn arg : Int} {x : Nat} (hS : Sat w0 w (mch bm pv fuel m :: Rs)) (hm : OkM fuel m (x + 2)) (hdep : m.depth = 0) (h0 : 0 ≤ fn) (h1 : fn < P.length) (hPr : Keeps w0 Rs (fun w => RdProg w pv sbs P)) {m1 : MS} {f1 : FS} {o1 : Int} (hr : callS P fuel 8 m fn arg none 0 false = .done m1 f1 o1) :
    Calls Try.prog 77 #[.pointer (some ⟨bm, 0, none⟩), .int .i64 fn, .int .i64 arg] w (Ret fun v w' => ∃ bd, v = .pointer (some ⟨bd, 0, none⟩) ∧ Sat w0 w' (mch bm pv fuel m1 :: frm bd f1 (.pointer none) :: Rs)) := by
  have h := first_calls P hP fuel bm pv sbs w0 w Rs m fn arg x hS hm hdep h0 h1 hPr
  rw [hr] at h
  refine h.mono fun e w' h2 => ?_
  cases e with
  | returned v =>
    rcases h2 with ⟨m', f', o', bd, hh, rfl, h4⟩ | ⟨m', hh, _⟩
    · injection hh with e1 e2 e3
      subst e1 e2 e3;exact ⟨bd, rfl, h4⟩
    · cases hh
  | panicked c => exact h2
  | outgrown => exact h2
theorem first_spent {P : List (List Stp)} (hP : ProgOk P) {fuel : Int} {bm : Nat} {pv : Sl} {sbs : List Sl} {w0 w : World} {Rs : List Asn} {m : MS} {fn arg : Int} {x : Nat} (hS : Sat w0 w (mch bm pv fuel m :: Rs)) (hm : OkM fuel m (x + 2)) (hdep : m.depth = 0) (h0 : 0 ≤ fn) (h1 : fn < P.length) (hPr : Keeps w0 Rs (fun w => RdProg w pv sbs P)) {m1 : MS} (hr : callS P fuel 8 m fn arg none 0 false = .spent m1) :
    Calls Try.prog 77 #[.pointer (some ⟨bm, 0, none⟩), .int .i64 fn, .int .i64 arg] w (Ret fun v w' => v = .pointer none ∧ Sat w0 w' (mch bm pv fuel m1 :: Rs)) := by
  have h := first_calls P hP fuel bm pv sbs w0 w Rs m fn arg x hS hm hdep h0 h1 hPr
  rw [hr] at h
  refine h.mono fun e w' h2 => ?_
  cases e with
  | returned v =>
    rcases h2 with ⟨m', f', o', bd, hh, _⟩ | ⟨m', hh, rfl, h4⟩
    · cases hh
    · injection hh with e1
      subst e1;exact ⟨rfl, h4⟩
  | panicked c => exact h2
  | outgrown => exact h2
end SX
namespace SX
open Go.RowKit
open Go.Proofs.Ytcbijhgepdedpaa.G Go.Proofs.YtcbijhgepdedpaaW.PrintWords Go.Proofs.YtcbijhgepdedpaaW.PrintLast Go.Proofs.YtcbijhgepdedpaaW.PrintMore
theorem code63 : Try.f63.body = some (Code.seq (cr Try.f63 0 false) (Code.seq (Code.seq (cr Try.f63 1 false) (Code.cond (Operand.tmp 35) (Code.seq (cr Try.f63 2 false) Code.ret) Code.skip)) (Code.seq (cr Try.f63 3 false) (Code.seq (cr Try.f63 4 false) (Code.seq (cr Try.f63 5 true) (Code.seq (Code.seq (cr Try.f63 6 false) (Code.cond (Operand.tmp 59) (Code.seq (cr Try.f63 7 true) (Code.seq (cr Try.f63 8 false) (Code.cond (Operand.tmp 84) (cr Try.f63 9 true) Code.skip))) Code.skip)) (Code.seq (cr Try.f63 10 false) Code.ret))))))) := by kernel_rfl
theorem ranFrom_bad (w0 : World) (pv : Sl) (l : List (List GS)) (f arg fuel shared : Int) (hn : pv.n = l.length) (hr : Kd.C (Kd.slice 98 k98) w0 pv.A l.length l) (hc : l.length ≤ pv.c) (hask : askB l f arg fuel = false) :
  Calls Try.prog 63 #[.agg #[pv.v], .int .i64 f, .int .i64 arg, .int .i64 fuel, .int .i64 shared] w0 (Ret fun r w' => r = .tuple #[.pointer none, .bool false] ∧ Sat w0 w' []) := by
 have hl : l.length ≤ 9223372036854775807 := hr.2.1
 have hrd : ∀ {w' : World} {Rs' : List Asn}, Sat w0 w' Rs' → Kd.C (Kd.slice 98 k98) w' pv.A l.length l := fun h => Kd.C_below hr h.below
 have hS := Sat.start w0
 refine enter (n := 96) Try.func63 code63 (by kernel_rfl) (Nat.le_of_ble_eq_true rfl) (fun a ha => ?_)
 replace ha : Has 96 [(0, .agg #[.slice pv.A pv.n pv.c]), (1, iv f), (2, iv arg), (3, iv fuel), (4, iv shared)] a := ha
 refine wp_seq (jX [0, 1, 2] (jZ (qJ 5 [.slice pv.A pv.n pv.c] 40 (ptr · 0) ha hS fun b1 w a hb2 hS ha => ?_)))
 refine jQ [(1, 10, .pointer none), (2, 11, .bool false)] ha fun a ha => ?_
 refine jY (jJ (wp_seq (wp_seq (jX [0, 1, 2, 3, 4, 5, 6, 7, 8, 9, 10, 11, 12, 13, 14, 15, 16, 17, 18, 19, 20, 21] (xG 14 ha (hS.blk 0 rfl) fun a ha => ?_)))))
 refine jZ (o_ret (Post := fun r_ w' => r_ = .bool (programB l) ∧ Sat w0 w' ((SX.blk b1 [.slice pv.A pv.n pv.c] 40) :: [])) ha (by decide) (zW (op := (Op.call { callee := (Callee.value (Operand.func 75)), args := #[(Operand.tmp 14)], argTypes := #[40] })) (d := some 15) (ty := 4)) rfl Try.func75 (by kernel_rfl) (by have h9 := prog_sat (A := pv.A) (c := pv.c) hS (hrd hS) hc; rw [← hn] at h9; exact h9) (fun v3 w a hp4 ha => ?_))
 obtain ⟨rfl, hS⟩ := hp4
 have ha : Has 96 [(1, iv f), (2, iv arg), (3, iv fuel), (4, iv shared), (5, ptr b1 0), (10, .pointer none), (11, .bool false), (14, .agg #[.slice pv.A pv.n pv.c]), (15, .bool (programB l))] a := ha.keeps [1, 2, 3, 4, 5, 10, 11, 14, 15] _ rfl
 refine jQ [(2, 16, .bool (!((programB l)))), (3, 17, .bool (!((programB l))))] ha fun a ha => ?_
 rcases Bool.eq_false_or_eq_true (programB l) with c5 | c5
 ·
  replace ha := ha.turn 15 (.bool true) rfl (congrArg Value.bool c5)
  replace ha := ha.turn 16 (.bool false) rfl (congrArg Value.bool (zX c5))
  replace ha := ha.turn 17 (.bool false) rfl (congrArg Value.bool (zX c5))
  refine jQ [(4, 18, iv f), (5, 19, ptr b1 0)] ha fun a ha => ?_
  refine jU (d := 20) (b := b1) (j := 0) ha (hS.blk 0 rfl) rfl fun a ha => ?_
  refine jQ [(7, 21, iv (pv.n : Int))] ha fun a ha => ?_
  refine zJ 22 ((pv.n : Int) - 1) ha fun a ha => ?_
  refine jZ (qG 23 (vs := [iv f, iv 0, iv ((pv.n : Int) - 1)]) ha (in_sat hS _ _ _) fun v6 w a hp7 ha => ?_)
  obtain ⟨rfl, hS⟩ := hp7
  refine jQ [(10, 24, .bool (!((inB f 0 ((pv.n : Int) - 1))))), (11, 25, .bool (!((inB f 0 ((pv.n : Int) - 1))))), (12, 26, .bool (!((inB f 0 ((pv.n : Int) - 1)))))] ha fun a ha => ?_
  rcases Bool.eq_false_or_eq_true (inB f 0 ((pv.n : Int) - 1)) with c8 | c8
  ·
   replace ha := ha.turn 23 (.bool true) rfl (congrArg Value.bool c8);replace ha := ha.turn 24 (.bool false) rfl (congrArg Value.bool (zX c8));replace ha := ha.turn 25 (.bool false) rfl (congrArg Value.bool (zX c8));replace ha := ha.turn 26 (.bool false) rfl (congrArg Value.bool (zX c8));refine jQ [(13, 27, iv arg)] ha fun a ha => ?_;refine jZ (qG 28 (vs := [iv arg]) ha (num_sat hS _) fun v9 w a hp10 ha => ?_);obtain ⟨rfl, hS⟩ := hp10;refine jQ [(15, 29, .bool (!((numB arg)))), (16, 30, .bool (!((numB arg)))), (17, 31, .bool (!((numB arg))))] ha fun a ha => ?_
   rcases Bool.eq_false_or_eq_true (numB arg) with c11 | c11
   ·
    replace ha := ha.turn 28 (.bool true) rfl (congrArg Value.bool c11);replace ha := ha.turn 29 (.bool false) rfl (congrArg Value.bool (zX c11));replace ha := ha.turn 30 (.bool false) rfl (congrArg Value.bool (zX c11));replace ha := ha.turn 31 (.bool false) rfl (congrArg Value.bool (zX c11));refine jQ [(18, 32, iv fuel)] ha fun a ha => ?_;refine jZ (qG 33 (vs := [iv fuel, iv 0, iv 200]) ha (in_sat hS _ _ _) fun v12 w a hp13 ha => ?_);obtain ⟨rfl, hS⟩ := hp13;refine jQ [(20, 34, .bool (!((inB fuel 0 200)))), (21, 35, .bool (!((inB fuel 0 200))))] ha fun a ha => ?_;refine jY (jJ ?_)
    rcases Bool.eq_false_or_eq_true (inB fuel 0 200) with c14 | c14
    ·
     exact absurd hask (by simp [askB, ← hn, c14, c5, c8, c11])
    refine jG ha rfl (kJ c14) ?_;refine wp_seq (jX [0, 1] (jQ [(0, 10, .pointer none), (1, 11, .bool false)] ha fun a ha => ?_));refine jY ?_;replace ha := ha.as [(1, iv f), (2, iv arg), (3, iv fuel), (4, iv shared), (5, ptr b1 0), (10, .pointer none), (11, .bool false)] rfl;refine jJ (wp_ret (xQ ?_));refine end_tmp2 (t := 10) (u := 11) ha (by kernel_rfl) rfl rfl ?_;exact ⟨rfl, Sat.rest [_] hS⟩
   replace ha := ha.turn 28 (.bool false) rfl (congrArg Value.bool c11);replace ha := ha.turn 29 (.bool true) rfl (congrArg Value.bool (kJ c11));replace ha := ha.turn 30 (.bool true) rfl (congrArg Value.bool (kJ c11));replace ha := ha.turn 31 (.bool true) rfl (congrArg Value.bool (kJ c11));refine jQ [(18, 32, undef), (19, 33, undef), (20, 34, undef), (21, 35, .bool true)] ha fun a ha => ?_;refine jY (jJ ?_);refine jG ha rfl rfl ?_;refine wp_seq (jX [0, 1] (jQ [(0, 10, .pointer none), (1, 11, .bool false)] ha fun a ha => ?_));refine jY ?_;replace ha := ha.as [(1, iv f), (2, iv arg), (3, iv fuel), (4, iv shared), (5, ptr b1 0), (10, .pointer none), (11, .bool false)] rfl;refine jJ (wp_ret (xQ ?_));refine end_tmp2 (t := 10) (u := 11) ha (by kernel_rfl) rfl rfl ?_;exact ⟨rfl, Sat.rest [_] hS⟩
  replace ha := ha.turn 23 (.bool false) rfl (congrArg Value.bool c8)
  replace ha := ha.turn 24 (.bool true) rfl (congrArg Value.bool (kJ c8))
  replace ha := ha.turn 25 (.bool true) rfl (congrArg Value.bool (kJ c8))
  replace ha := ha.turn 26 (.bool true) rfl (congrArg Value.bool (kJ c8))
  refine jQ [(13, 27, undef), (14, 28, undef), (15, 29, undef), (16, 30, .bool true), (17, 31, .bool true), (18, 32, undef), (19, 33, undef), (20, 34, undef), (21, 35, .bool true)] ha fun a ha => ?_
  refine jY (jJ ?_)
  refine jG ha rfl rfl ?_
  refine wp_seq (jX [0, 1] (jQ [(0, 10, .pointer none), (1, 11, .bool false)] ha fun a ha => ?_))
  refine jY ?_
  replace ha := ha.as [(1, iv f), (2, iv arg), (3, iv fuel), (4, iv shared), (5, ptr b1 0), (10, .pointer none), (11, .bool false)] rfl
  refine jJ (wp_ret (xQ ?_))
  refine end_tmp2 (t := 10) (u := 11) ha (by kernel_rfl) rfl rfl ?_
  exact ⟨rfl, Sat.rest [_] hS⟩
 replace ha := ha.turn 15 (.bool false) rfl (congrArg Value.bool c5)
 replace ha := ha.turn 16 (.bool true) rfl (congrArg Value.bool (kJ c5))
 replace ha := ha.turn 17 (.bool true) rfl (congrArg Value.bool (kJ c5))
 refine jQ [(4, 18, undef), (5, 19, undef), (6, 20, undef), (7, 21, undef), (8, 22, undef), (9, 23, undef), (10, 24, undef), (11, 25, .bool true), (12, 26, .bool true), (13, 27, undef), (14, 28, undef), (15, 29, undef), (16, 30, .bool true), (17, 31, .bool true), (18, 32, undef), (19, 33, undef), (20, 34, undef), (21, 35, .bool true)] ha fun a ha => ?_
 refine jY ?_
 replace ha := ha.as [(1, iv f), (2, iv arg), (3, iv fuel), (4, iv shared), (5, ptr b1 0), (10, .pointer none), (11, .bool false), (35, .bool true)] rfl
 refine jJ ?_
 refine jG ha rfl rfl ?_
 refine wp_seq (jX [0, 1] (jQ [(0, 10, .pointer none), (1, 11, .bool false)] ha fun a ha => ?_))
 refine jY (jJ (wp_ret (xQ ?_)))
 refine end_tmp2 (t := 10) (u := 11) ha (by kernel_rfl) rfl rfl ?_
 exact ⟨rfl, Sat.rest [_] hS⟩
theorem ranFrom_done (w0 : World) (pv : Sl) (l : List (List GS)) (f arg fuel shared : Int) (hn : pv.n = l.length) (hr : Kd.C (Kd.slice 98 k98) w0 pv.A l.length l) (hc : l.length ≤ pv.c) (hask : askB l f arg fuel = true) (m1 : MS) (f1 : FS) (o1 : Int) (hres : callS (PL l) fuel 8 (MS.start shared) f arg none 0 false = .done m1 f1 o1) :
  Calls Try.prog 63 #[.agg #[pv.v], .int .i64 f, .int .i64 arg, .int .i64 fuel, .int .i64 shared] w0 (Ret fun r w' => ∃ bm, r = .tuple #[.pointer (some ⟨bm, 0, none⟩), .bool true] ∧ Sat w0 w' [mchO bm pv fuel (runS (PL l) shared f arg fuel)]) := by
 have hl : l.length ≤ 9223372036854775807 := hr.2.1
 have hrd : ∀ {w' : World} {Rs' : List Asn}, Sat w0 w' Rs' → Kd.C (Kd.slice 98 k98) w' pv.A l.length l := fun h => Kd.C_below hr h.below
 have hS := Sat.start w0
 simp only [askB, Bool.and_eq_true] at hask
 obtain ⟨⟨⟨hq1, hq2⟩, hq3⟩, hq4⟩ := hask
 have hP := progOk_of hq1
 obtain ⟨sbs, hPr⟩ := rdProg_of (c := pv.c) hr
 rw [← hn] at hPr
 rw [← hn] at hq2
 have hff : 0 ≤ f ∧ f < (PL l).length := by rw [PL_length, ← hn]; simp only [inB, Bool.and_eq_true, decide_eq_true_eq] at hq2; omega
 have hfu : 0 ≤ fuel ∧ fuel ≤ 200 := by simp only [inB, Bool.and_eq_true, decide_eq_true_eq] at hq4; exact hq4
 obtain ⟨hok, hgr, hof⟩ := callS_ok hP fuel 8 (MS.start shared) f arg none 0 false m1 f1 o1 10 (start_ok shared hfu.1 hfu.2) hff.1 hff.2 hres
 obtain ⟨c0, hc0⟩ : ∃ c, m1.calls[0]? = some c := ⟨m1.calls[0]'(by have := hof.id0; have := hof.id1; omega), List.getElem?_eq_getElem _⟩
 have hb9 := hof.pan
 refine enter (n := 96) Try.func63 code63 (by kernel_rfl) (Nat.le_of_ble_eq_true rfl) (fun a ha => ?_)
 replace ha : Has 96 [(0, .agg #[.slice pv.A pv.n pv.c]), (1, iv f), (2, iv arg), (3, iv fuel), (4, iv shared)] a := ha
 refine wp_seq (jX [0, 1, 2] (jZ (qJ 5 [.slice pv.A pv.n pv.c] 40 (ptr · 0) ha hS fun b1 w a hb2 hS ha => ?_)))
 refine jQ [(1, 10, .pointer none), (2, 11, .bool false)] ha fun a ha => ?_
 refine jY (jJ (wp_seq (wp_seq (jX [0, 1, 2, 3, 4, 5, 6, 7, 8, 9, 10, 11, 12, 13, 14, 15, 16, 17, 18, 19, 20, 21] (xG 14 ha (hS.blk 0 rfl) fun a ha => ?_)))))
 refine jZ (o_ret (Post := fun r_ w' => r_ = .bool (programB l) ∧ Sat w0 w' ((SX.blk b1 [.slice pv.A pv.n pv.c] 40) :: [])) ha (by decide) (zW (op := (Op.call { callee := (Callee.value (Operand.func 75)), args := #[(Operand.tmp 14)], argTypes := #[40] })) (d := some 15) (ty := 4)) rfl Try.func75 (by kernel_rfl) (by have h9 := prog_sat (A := pv.A) (c := pv.c) hS (hrd hS) hc; rw [← hn] at h9; exact h9) (fun v3 w a hp4 ha => ?_))
 obtain ⟨rfl, hS⟩ := hp4
 have ha : Has 96 [(1, iv f), (2, iv arg), (3, iv fuel), (4, iv shared), (5, ptr b1 0), (10, .pointer none), (11, .bool false), (14, .agg #[.slice pv.A pv.n pv.c]), (15, .bool (programB l))] a := ha.keeps [1, 2, 3, 4, 5, 10, 11, 14, 15] _ rfl
 refine jQ [(2, 16, .bool (!((programB l)))), (3, 17, .bool (!((programB l))))] ha fun a ha => ?_
 replace ha := ha.turn 15 (.bool true) rfl (congrArg Value.bool hq1)
 replace ha := ha.turn 16 (.bool false) rfl (congrArg Value.bool (zX hq1))
 replace ha := ha.turn 17 (.bool false) rfl (congrArg Value.bool (zX hq1))
 refine jQ [(4, 18, iv f), (5, 19, ptr b1 0)] ha fun a ha => ?_
 refine jU (d := 20) (b := b1) (j := 0) ha (hS.blk 0 rfl) rfl fun a ha => ?_
 refine jQ [(7, 21, iv (pv.n : Int))] ha fun a ha => ?_
 refine zJ 22 ((pv.n : Int) - 1) ha fun a ha => ?_
 refine jZ (qG 23 (vs := [iv f, iv 0, iv ((pv.n : Int) - 1)]) ha (in_sat hS _ _ _) fun v5 w a hp6 ha => ?_)
 obtain ⟨rfl, hS⟩ := hp6
 refine jQ [(10, 24, .bool (!((inB f 0 ((pv.n : Int) - 1))))), (11, 25, .bool (!((inB f 0 ((pv.n : Int) - 1))))), (12, 26, .bool (!((inB f 0 ((pv.n : Int) - 1)))))] ha fun a ha => ?_
 replace ha := ha.turn 23 (.bool true) rfl (congrArg Value.bool hq2)
 replace ha := ha.turn 24 (.bool false) rfl (congrArg Value.bool (zX hq2))
 replace ha := ha.turn 25 (.bool false) rfl (congrArg Value.bool (zX hq2))
 replace ha := ha.turn 26 (.bool false) rfl (congrArg Value.bool (zX hq2))
 refine jQ [(13, 27, iv arg)] ha fun a ha => ?_
 refine jZ (qG 28 (vs := [iv arg]) ha (num_sat hS _) fun v7 w a hp8 ha => ?_)
 obtain ⟨rfl, hS⟩ := hp8
 refine jQ [(15, 29, .bool (!((numB arg)))), (16, 30, .bool (!((numB arg)))), (17, 31, .bool (!((numB arg))))] ha fun a ha => ?_
 replace ha := ha.turn 28 (.bool true) rfl (congrArg Value.bool hq3)
 replace ha := ha.turn 29 (.bool false) rfl (congrArg Value.bool (zX hq3))
 replace ha := ha.turn 30 (.bool false) rfl (congrArg Value.bool (zX hq3))
 replace ha := ha.turn 31 (.bool false) rfl (congrArg Value.bool (zX hq3))
 refine jQ [(18, 32, iv fuel)] ha fun a ha => ?_
 refine jZ (qG 33 (vs := [iv fuel, iv 0, iv 200]) ha (in_sat hS _ _ _) fun v9 w a hp10 ha => ?_)
 obtain ⟨rfl, hS⟩ := hp10
 refine jQ [(20, 34, .bool (!((inB fuel 0 200)))), (21, 35, .bool (!((inB fuel 0 200))))] ha fun a ha => ?_
 refine jY (jJ ?_)
 refine jV ha rfl (zX hq4) ?_
 refine wp_skip (jJ (wp_seq (jX [0, 1, 2, 3, 4, 5, 6] (xG 36 ha (hS.blk 0 rfl) fun a ha => ?_))))
 refine jQ [(1, 37, iv fuel), (2, 38, iv shared)] ha fun a ha => ?_
 refine jZ (o_makeMap ha (by decide) (zW (op := (Op.makeMap 89 none)) (d := some 39) (ty := 89)) hS (fun bp w a hb11 (hS : Sat w0 w ((yY bp []) :: (SX.blk b1 [.slice pv.A pv.n pv.c] 40) :: [])) ha => ?_))
 refine jQ [(4, 40, .agg #[.slice pv.A pv.n pv.c, iv fuel, iv 0, iv shared, iv 0, iv 0, .slice none 0 0, .slice none 0 0, .slice none 0 0, .slice none 0 0, .slice none 0 0, .map (some bp), iv 0, iv 0, .slice none 0 0, iv 0])] ha fun a ha => ?_
 refine jZ (qJ 41 [.slice pv.A pv.n pv.c, iv fuel, iv 0, iv shared, iv 0, iv 0, .slice none 0 0, .slice none 0 0, .slice none 0 0, .slice none 0 0, .slice none 0 0, .map (some bp), iv 0, iv 0, .slice none 0 0, iv 0] 91 (ptr · 0) ha hS fun bm w a hb12 hS ha => ?_)
 refine jQ [(6, 12, ptr bm 0)] ha fun a ha => ?_
 refine jY ?_
 replace ha := ha.as [(1, iv f), (2, iv arg), (10, .pointer none), (11, .bool false), (12, ptr bm 0)] rfl
 refine jJ (wp_seq (jX [0, 1, 2, 3, 4] (jQ [(0, 42, ptr bm 0), (1, 43, iv f), (2, 44, iv arg)] ha fun a ha => ?_)))
 replace hS : Sat w0 w ((MB bm pv fuel 0 shared 0 0 (⟨none, 0, 0⟩) (⟨none, 0, 0⟩) (⟨none, 0, 0⟩) (⟨none, 0, 0⟩) (⟨none, 0, 0⟩) bp) :: (yY bp []) :: (SX.blk b1 [.slice pv.A pv.n pv.c] 40) :: []) := hS
 replace hS : Sat w0 w ((mch bm pv fuel (MS.start shared)) :: (SX.blk b1 [.slice pv.A pv.n pv.c] 40) :: []) := mch_start (pv := pv) hS
 refine jZ (qG 45 (vs := [ptr bm 0, iv f, iv arg]) ha (first_done hP (pv := pv) (sbs := sbs) hS (start_ok shared hfu.1 hfu.2) rfl hff.1 hff.2 (hPr.keeps _) hres) fun v13 w a hp14 ha => ?_)
 obtain ⟨bd, rfl, hS⟩ := hp14
 obtain ⟨s, t, hs, hS⟩ := Sat.openMF hS
 replace hS : Sat w0 w ((MB bm pv fuel m1.made m1.shared m1.depth m1.deepest s.tr s.ow s.ca s.pa s.re s.bp) :: (rE s.tr m1.trace) :: (rI s.ow m1.owners) :: (rC s.ca m1.calls) :: (rP s.pa s.us) :: (jW (yQ s.us)) :: (rV s.re m1.recs) :: (yY s.bp m1.places) :: (FB bd f1.id f1.fn f1.r0 f1.r1 f1.r2 f1.r3 t (.pointer none) f1.dfr f1.cnt f1.lvg f1.en f1.pan) :: (rQ t f1.runs) :: (SX.blk b1 [.slice pv.A pv.n pv.c] 40) :: []) := hS
 refine jQ [(4, 13, ptr bd 0)] ha fun a ha => ?_
 refine jY (jJ (wp_seq (xH 12 13 hS fun w hS => ?_)))
 refine jK (k := 9) [(0, 46, ptr bm 0), (1, 47, ptr bm 0), (2, 48, ptr bm 0), (3, 49, ptr bm 6)] ha (.inr hS) fun a ha => ?_
 refine qW 4 (d := 50) (b := bm) (j := 6) ha hS (fun _ hw => hw.blk 0 rfl) rfl fun a ha => ?_
 refine jK (k := 5) [(5, 51, ptr bm 0), (6, 52, ptr bm 0), (7, 53, ptr bm 2)] ha (.inr hS) fun a ha => ?_
 refine qW 8 (d := 54) (b := bm) (j := 2) ha hS (fun _ hw => hw.blk 0 rfl) rfl fun a ha => ?_
 refine jK (k := 1) [(9, 55, .agg #[iv 4, iv 0, .slice s.tr.A s.tr.n s.tr.c, iv m1.made]), (10, 56, ptr bm 0), (11, 57, ptr bm 12)] ha (.inr hS) fun a ha => ?_
 refine jH 12 (o_sa 0 ha (qU (t := 81) (x := 57) (y := 55)) hS fun w a hS ha => ?_)
 refine xJ (xX ?_)
 replace ha := ha.as [(10, .pointer none), (11, .bool false), (12, ptr bm 0), (13, ptr bd 0)] rfl
 refine jJ (wp_seq (wp_seq (jX [0, 1] (jQ [(0, 58, ptr bd 0), (1, 59, .bool true)] ha fun a ha => ?_))))
 refine jY (jJ ?_)
 refine jG ha rfl rfl ?_
 refine wp_seq (xH 17 22 hS fun w hS => ?_)
 refine jK (k := 17) [(0, 60, ptr bm 0), (1, 61, ptr bm 0), (2, 62, ptr bd 0), (3, 63, ptr bd 0), (4, 64, ptr bd 11)] ha (.inr hS) fun a ha => ?_
 refine qW 5 (d := 65) (b := bd) (j := 11) ha hS (fun _ hw => hw.blk 8 rfl) rfl fun a ha => ?_
 refine jK (k := 13) [(6, 66, ptr bm 0), (7, 67, ptr bm 0), (8, 68, ptr bm 8)] ha (.inr hS) fun a ha => ?_
 refine qW 9 (d := 69) (b := bm) (j := 8) ha hS (fun _ hw => hw.blk 0 rfl) rfl fun a ha => ?_
 refine zQ 10 (.pointer (some ⟨bk s.ca, 0 * 6, none⟩)) ha (xW (s := s.ca) (el := 147) (sz := 6) (j := 0) ha (zW (op := (Op.indexAddr 86 (Operand.tmp 69) (Operand.const (Value.int IntKind.i64 0)))) (d := some 70) (ty := 0)) rfl rfl (by kernel_rfl) (by kernel_rfl) (hS.rowA (s := s.ca) 3 rfl (by have := (List.getElem?_eq_some_iff.1 hc0).1; rw [encC_length]; omega)) (rfl) (by have h9 := hS.rowL (s := s.ca) (enc := cellsC) 3 zG (by decide) rfl; have := (List.getElem?_eq_some_iff.1 hc0).1; omega)) (.inr hS) fun a ha => ?_
 refine jK (k := 9) [(11, 71, .pointer (some ⟨bk s.ca, 0 * 6, none⟩)), (12, 72, .pointer (some ⟨bk s.ca, 0 * 6 + 4, none⟩))] ha (.inr hS) fun a ha => ?_
 refine zH 13 (iv c0.val) ha (zK ha (zV (t := 3) (x := 72) (d := 73) (ty := 3)) rfl (by kernel_rfl) (fun w' hw => ((hw.rdC (s := s.ca) 3 rfl)).cells _ _ ((flat_get (enc := cellsC) (o := 4) zG hc0 (by decide)).trans rfl))) hS fun a ha => ?_
 refine jK (k := 5) [(14, 74, ptr bm 0), (15, 75, ptr bm 12), (16, 76, ptr bm 12)] ha (.inr hS) fun a ha => ?_
 refine jH 17 (qH bm 12 (iv f1.en) 0 ha hS rfl rfl fun w a hS ha => ?_)
 refine xJ (jK (k := 1) [(18, 77, ptr bm 0), (19, 78, ptr bm 12), (20, 79, ptr bm 13)] ha (.inl (by kernel_rfl)) fun a ha => ?_)
 refine jH 21 (qH bm 13 (iv c0.val) 0 ha hS rfl rfl fun w a hS ha => ?_)
 refine xJ (xX ?_)
 replace ha := ha.as [(10, .pointer none), (11, .bool false), (12, ptr bm 0), (13, ptr bd 0)] rfl
 refine jJ (wp_seq (jX [0, 1, 2, 3, 4] (jQ [(0, 80, ptr bd 0), (1, 81, ptr bd 0), (2, 82, ptr bd 11)] ha fun a ha => ?_)))
 refine jU (d := 83) (b := bd) (j := 11) ha (hS.blk 8 rfl) rfl fun a ha => ?_
 refine jQ [(4, 84, .bool (decide (f1.en = 2)))] ha fun a ha => ?_
 refine jY (jJ ?_)
 by_cases c15 : f1.en = 2
 ·
  refine jG ha rfl (decide_eq_true c15) ?_
  have hpn := hof.pan c15
  obtain ⟨x, hx⟩ := us_get hs hpn.1 hpn.2
  refine xH 10 11 hS fun w hS => ?_
  refine jK (k := 8) [(0, 85, ptr bm 0), (1, 86, ptr bm 0), (2, 87, ptr bm 9)] ha (.inr hS) fun a ha => ?_
  refine qW 3 (d := 88) (b := bm) (j := 9) ha hS (fun _ hw => hw.blk 0 rfl) rfl fun a ha => ?_
  refine jK (k := 4) [(4, 89, ptr bd 0), (5, 90, ptr bd 0), (6, 91, ptr bd 12)] ha (.inr hS) fun a ha => ?_
  refine qW 7 (d := 92) (b := bd) (j := 12) ha hS (fun _ hw => hw.blk 8 rfl) rfl fun a ha => ?_
  refine zQ 8 (.pointer (some ⟨bk s.pa, f1.pan.toNat * 9, none⟩)) ha (xW (s := s.pa) (el := 113) (sz := 9) (j := f1.pan.toNat) ha (yU (t := 87) (x := 88) (y := 92) (d := 93)) rfl rfl (by kernel_rfl) (by kernel_rfl) (hS.rowA (s := s.pa) 4 rfl (by have := (List.getElem?_eq_some_iff.1 hx).1; rw [encP_length]; omega)) ((Int.toNat_of_nonneg hpn.1).symm) (by have h9 := hS.rowL (s := s.pa) (enc := cellsP) 4 xK (by decide) rfl; have := (List.getElem?_eq_some_iff.1 hx).1; omega)) (.inr hS) fun a ha => ?_
  refine jK (k := 1) [(9, 94, .pointer (some ⟨bk s.pa, f1.pan.toNat * 9 + 4, none⟩))] ha (.inr hS) fun a ha => ?_
  refine jH 10 (zZ (s := s.pa) (j := f1.pan.toNat * 9 + 4) (xs := encP s.us) (xs' := encP (s.us.set f1.pan.toNat (({ x.1 with fate := 3 } : PanI), x.2))) 4 ha (zW (op := (Op.store 3 (Operand.tmp 94) (Operand.const (Value.int IntKind.i64 3)))) (ty := 0)) rfl rfl rfl (by kernel_rfl) hS rfl (by have := (List.getElem?_eq_some_iff.1 hx).1; rw [encP_length]; omega) ((flat_set (enc := cellsP) (x' := (({ x.1 with fate := 3 } : PanI), x.2)) xK hx (by decide) rfl)) (fun w a (hS : Sat w0 w ((SX.blk bm [.slice pv.A pv.n pv.c, iv fuel, iv m1.made, iv m1.shared, iv m1.depth, iv m1.deepest, .slice s.tr.A s.tr.n s.tr.c, .slice s.ow.A s.ow.n s.ow.c, .slice s.ca.A s.ca.n s.ca.c, .slice s.pa.A s.pa.n s.pa.c, .slice s.re.A s.re.n s.re.c, .map (some s.bp), iv f1.en, iv c0.val, .slice s.tr.A s.tr.n s.tr.c, iv m1.made] 91) :: (rE s.tr m1.trace) :: (rI s.ow m1.owners) :: (rC s.ca m1.calls) :: (rP s.pa (s.us.set f1.pan.toNat (({ x.1 with fate := 3 } : PanI), x.2))) :: (jW (yQ s.us)) :: (rV s.re m1.recs) :: (yY s.bp m1.places) :: (FB bd f1.id f1.fn f1.r0 f1.r1 f1.r2 f1.r3 t (.pointer none) f1.dfr f1.cnt f1.lvg f1.en f1.pan) :: (rQ t f1.runs) :: (SX.blk b1 [.slice pv.A pv.n pv.c] 40) :: [])) ha => ?_))
  refine xJ (xX ?_)
  replace ha := ha.as [(10, .pointer none), (11, .bool false), (12, ptr bm 0)] rfl
  refine jJ (wp_seq (jX [0, 1, 2] (jQ [(0, 95, ptr bm 0), (1, 10, ptr bm 0), (2, 11, .bool true)] ha fun a ha => ?_)))
  refine jY (jJ (wp_ret ?_))
  refine end_tmp2 (t := 10) (u := 11) ha (by kernel_rfl) rfl rfl ?_
  replace hS : Sat w0 w ((SX.blk bm [.slice pv.A pv.n pv.c, iv fuel, iv m1.made, iv m1.shared, iv m1.depth, iv m1.deepest, .slice s.tr.A s.tr.n s.tr.c, .slice s.ow.A s.ow.n s.ow.c, .slice s.ca.A s.ca.n s.ca.c, .slice s.pa.A s.pa.n s.pa.c, .slice s.re.A s.re.n s.re.c, .map (some s.bp), iv f1.en, iv c0.val, .slice s.tr.A s.tr.n s.tr.c, iv m1.made] 91) :: (rE s.tr m1.trace) :: (rI s.ow m1.owners) :: (rC s.ca m1.calls) :: (rP s.pa (s.us.set f1.pan.toNat (({ x.1 with fate := 3 } : PanI), x.2))) :: (jW (yQ (s.us.set f1.pan.toNat (({ x.1 with fate := 3 } : PanI), x.2)))) :: (rV s.re m1.recs) :: (yY s.bp m1.places) :: (FB bd f1.id f1.fn f1.r0 f1.r1 f1.r2 f1.r3 t (.pointer none) f1.dfr f1.cnt f1.lvg f1.en f1.pan) :: (rQ t f1.runs) :: (SX.blk b1 [.slice pv.A pv.n pv.c] 40) :: []) := by have e : yQ (s.us.set f1.pan.toNat (({ x.1 with fate := 3 } : PanI), x.2)) = yQ s.us := unwL_set hx rfl rfl; rw [e]; exact hS
  replace hS := hS.pickN 11 [0, 1, 2, 3, 4, 5, 6, 7]
  refine ⟨bm, rfl, ?_⟩
  have hE : runS (PL l) shared f arg fuel = ⟨(⟨m1.made, m1.shared, m1.depth, m1.deepest, m1.trace, m1.owners, m1.calls, (panAt m1.panics f1.pan (fun z => { z with fate := 3 })), m1.recs, m1.places⟩ : MS), f1.en, c0.val⟩ := by unfold runS; rw [hres]; simp [runOf, hc0, List.getD, c15]
  rw [hE]
  exact Sat.shutMO (r := ⟨(⟨m1.made, m1.shared, m1.depth, m1.deepest, m1.trace, m1.owners, m1.calls, (panAt m1.panics f1.pan (fun z => { z with fate := 3 })), m1.recs, m1.places⟩ : MS), f1.en, c0.val⟩) (⟨s.tr, s.ow, s.ca, s.pa, s.re, (s.us.set f1.pan.toNat (({ x.1 with fate := 3 } : PanI), x.2)), s.bp⟩ : MSl) (panAt_us (g := fun z => { z with fate := 3 }) hs hx) hS
 refine jV ha rfl (decide_eq_false c15) ?_
 refine wp_skip (jJ (wp_seq (jX [0, 1, 2] (jQ [(0, 95, ptr bm 0), (1, 10, ptr bm 0), (2, 11, .bool true)] ha fun a ha => ?_))))
 refine jY (jJ (wp_ret ?_))
 refine end_tmp2 (t := 10) (u := 11) ha (by kernel_rfl) rfl rfl ?_
 replace hS := hS.pickN 11 [0, 1, 2, 3, 4, 5, 6, 7]
 refine ⟨bm, rfl, ?_⟩
 have hE : runS (PL l) shared f arg fuel = ⟨(⟨m1.made, m1.shared, m1.depth, m1.deepest, m1.trace, m1.owners, m1.calls, m1.panics, m1.recs, m1.places⟩ : MS), f1.en, c0.val⟩ := by unfold runS; rw [hres]; simp [runOf, hc0, List.getD, c15]
 rw [hE]
 exact Sat.shutMO (r := ⟨(⟨m1.made, m1.shared, m1.depth, m1.deepest, m1.trace, m1.owners, m1.calls, m1.panics, m1.recs, m1.places⟩ : MS), f1.en, c0.val⟩) (⟨s.tr, s.ow, s.ca, s.pa, s.re, s.us, s.bp⟩ : MSl) (hs) hS
theorem ranFrom_spent (w0 : World) (pv : Sl) (l : List (List GS)) (f arg fuel shared : Int) (hn : pv.n = l.length) (hr : Kd.C (Kd.slice 98 k98) w0 pv.A l.length l) (hc : l.length ≤ pv.c) (hask : askB l f arg fuel = true) (m1 : MS) (hres : callS (PL l) fuel 8 (MS.start shared) f arg none 0 false = .spent m1) :
  Calls Try.prog 63 #[.agg #[pv.v], .int .i64 f, .int .i64 arg, .int .i64 fuel, .int .i64 shared] w0 (Ret fun r w' => ∃ bm, r = .tuple #[.pointer (some ⟨bm, 0, none⟩), .bool true] ∧ Sat w0 w' [mchO bm pv fuel (runS (PL l) shared f arg fuel)]) := by
 have hl : l.length ≤ 9223372036854775807 := hr.2.1
 have hrd : ∀ {w' : World} {Rs' : List Asn}, Sat w0 w' Rs' → Kd.C (Kd.slice 98 k98) w' pv.A l.length l := fun h => Kd.C_below hr h.below
 have hS := Sat.start w0
 simp only [askB, Bool.and_eq_true] at hask
 obtain ⟨⟨⟨hq1, hq2⟩, hq3⟩, hq4⟩ := hask
 have hP := progOk_of hq1
 obtain ⟨sbs, hPr⟩ := rdProg_of (c := pv.c) hr
 rw [← hn] at hPr
 rw [← hn] at hq2
 have hff : 0 ≤ f ∧ f < (PL l).length := by rw [PL_length, ← hn]; simp only [inB, Bool.and_eq_true, decide_eq_true_eq] at hq2; omega
 have hfu : 0 ≤ fuel ∧ fuel ≤ 200 := by simp only [inB, Bool.and_eq_true, decide_eq_true_eq] at hq4; exact hq4
 refine enter (n := 96) Try.func63 code63 (by kernel_rfl) (Nat.le_of_ble_eq_true rfl) (fun a ha => ?_)
 replace ha : Has 96 [(0, .agg #[.slice pv.A pv.n pv.c]), (1, iv f), (2, iv arg), (3, iv fuel), (4, iv shared)] a := ha
 refine wp_seq (jX [0, 1, 2] (jZ (qJ 5 [.slice pv.A pv.n pv.c] 40 (ptr · 0) ha hS fun b1 w a hb2 hS ha => ?_)))
 refine jQ [(1, 10, .pointer none), (2, 11, .bool false)] ha fun a ha => ?_
 refine jY (jJ (wp_seq (wp_seq (jX [0, 1, 2, 3, 4, 5, 6, 7, 8, 9, 10, 11, 12, 13, 14, 15, 16, 17, 18, 19, 20, 21] (xG 14 ha (hS.blk 0 rfl) fun a ha => ?_)))))
 refine jZ (o_ret (Post := fun r_ w' => r_ = .bool (programB l) ∧ Sat w0 w' ((SX.blk b1 [.slice pv.A pv.n pv.c] 40) :: [])) ha (by decide) (zW (op := (Op.call { callee := (Callee.value (Operand.func 75)), args := #[(Operand.tmp 14)], argTypes := #[40] })) (d := some 15) (ty := 4)) rfl Try.func75 (by kernel_rfl) (by have h9 := prog_sat (A := pv.A) (c := pv.c) hS (hrd hS) hc; rw [← hn] at h9; exact h9) (fun v3 w a hp4 ha => ?_))
 obtain ⟨rfl, hS⟩ := hp4
 have ha : Has 96 [(1, iv f), (2, iv arg), (3, iv fuel), (4, iv shared), (5, ptr b1 0), (10, .pointer none), (11, .bool false), (14, .agg #[.slice pv.A pv.n pv.c]), (15, .bool (programB l))] a := ha.keeps [1, 2, 3, 4, 5, 10, 11, 14, 15] _ rfl
 refine jQ [(2, 16, .bool (!((programB l)))), (3, 17, .bool (!((programB l))))] ha fun a ha => ?_
 replace ha := ha.turn 15 (.bool true) rfl (congrArg Value.bool hq1)
 replace ha := ha.turn 16 (.bool false) rfl (congrArg Value.bool (zX hq1))
 replace ha := ha.turn 17 (.bool false) rfl (congrArg Value.bool (zX hq1))
 refine jQ [(4, 18, iv f), (5, 19, ptr b1 0)] ha fun a ha => ?_
 refine jU (d := 20) (b := b1) (j := 0) ha (hS.blk 0 rfl) rfl fun a ha => ?_
 refine jQ [(7, 21, iv (pv.n : Int))] ha fun a ha => ?_
 refine zJ 22 ((pv.n : Int) - 1) ha fun a ha => ?_
 refine jZ (qG 23 (vs := [iv f, iv 0, iv ((pv.n : Int) - 1)]) ha (in_sat hS _ _ _) fun v5 w a hp6 ha => ?_)
 obtain ⟨rfl, hS⟩ := hp6
 refine jQ [(10, 24, .bool (!((inB f 0 ((pv.n : Int) - 1))))), (11, 25, .bool (!((inB f 0 ((pv.n : Int) - 1))))), (12, 26, .bool (!((inB f 0 ((pv.n : Int) - 1)))))] ha fun a ha => ?_
 replace ha := ha.turn 23 (.bool true) rfl (congrArg Value.bool hq2)
 replace ha := ha.turn 24 (.bool false) rfl (congrArg Value.bool (zX hq2))
 replace ha := ha.turn 25 (.bool false) rfl (congrArg Value.bool (zX hq2))
 replace ha := ha.turn 26 (.bool false) rfl (congrArg Value.bool (zX hq2))
 refine jQ [(13, 27, iv arg)] ha fun a ha => ?_
 refine jZ (qG 28 (vs := [iv arg]) ha (num_sat hS _) fun v7 w a hp8 ha => ?_)
 obtain ⟨rfl, hS⟩ := hp8
 refine jQ [(15, 29, .bool (!((numB arg)))), (16, 30, .bool (!((numB arg)))), (17, 31, .bool (!((numB arg))))] ha fun a ha => ?_
 replace ha := ha.turn 28 (.bool true) rfl (congrArg Value.bool hq3)
 replace ha := ha.turn 29 (.bool false) rfl (congrArg Value.bool (zX hq3))
 replace ha := ha.turn 30 (.bool false) rfl (congrArg Value.bool (zX hq3))
 replace ha := ha.turn 31 (.bool false) rfl (congrArg Value.bool (zX hq3))
 refine jQ [(18, 32, iv fuel)] ha fun a ha => ?_
 refine jZ (qG 33 (vs := [iv fuel, iv 0, iv 200]) ha (in_sat hS _ _ _) fun v9 w a hp10 ha => ?_)
 obtain ⟨rfl, hS⟩ := hp10
 refine jQ [(20, 34, .bool (!((inB fuel 0 200)))), (21, 35, .bool (!((inB fuel 0 200))))] ha fun a ha => ?_
 refine jY (jJ ?_)
 refine jV ha rfl (zX hq4) ?_
 refine wp_skip (jJ (wp_seq (jX [0, 1, 2, 3, 4, 5, 6] (xG 36 ha (hS.blk 0 rfl) fun a ha => ?_))))
 refine jQ [(1, 37, iv fuel), (2, 38, iv shared)] ha fun a ha => ?_
 refine jZ (o_makeMap ha (by decide) (zW (op := (Op.makeMap 89 none)) (d := some 39) (ty := 89)) hS (fun bp w a hb11 (hS : Sat w0 w ((yY bp []) :: (SX.blk b1 [.slice pv.A pv.n pv.c] 40) :: [])) ha => ?_))
 refine jQ [(4, 40, .agg #[.slice pv.A pv.n pv.c, iv fuel, iv 0, iv shared, iv 0, iv 0, .slice none 0 0, .slice none 0 0, .slice none 0 0, .slice none 0 0, .slice none 0 0, .map (some bp), iv 0, iv 0, .slice none 0 0, iv 0])] ha fun a ha => ?_
 refine jZ (qJ 41 [.slice pv.A pv.n pv.c, iv fuel, iv 0, iv shared, iv 0, iv 0, .slice none 0 0, .slice none 0 0, .slice none 0 0, .slice none 0 0, .slice none 0 0, .map (some bp), iv 0, iv 0, .slice none 0 0, iv 0] 91 (ptr · 0) ha hS fun bm w a hb12 hS ha => ?_)
 refine jQ [(6, 12, ptr bm 0)] ha fun a ha => ?_
 refine jY ?_
 replace ha := ha.as [(1, iv f), (2, iv arg), (10, .pointer none), (11, .bool false), (12, ptr bm 0)] rfl
 refine jJ (wp_seq (jX [0, 1, 2, 3, 4] (jQ [(0, 42, ptr bm 0), (1, 43, iv f), (2, 44, iv arg)] ha fun a ha => ?_)))
 replace hS : Sat w0 w ((MB bm pv fuel 0 shared 0 0 (⟨none, 0, 0⟩) (⟨none, 0, 0⟩) (⟨none, 0, 0⟩) (⟨none, 0, 0⟩) (⟨none, 0, 0⟩) bp) :: (yY bp []) :: (SX.blk b1 [.slice pv.A pv.n pv.c] 40) :: []) := hS
 replace hS : Sat w0 w ((mch bm pv fuel (MS.start shared)) :: (SX.blk b1 [.slice pv.A pv.n pv.c] 40) :: []) := mch_start (pv := pv) hS
 refine jZ (qG 45 (vs := [ptr bm 0, iv f, iv arg]) ha (first_spent hP (pv := pv) (sbs := sbs) hS (start_ok shared hfu.1 hfu.2) rfl hff.1 hff.2 (hPr.keeps _) hres) fun v13 w a hp14 ha => ?_)
 obtain ⟨rfl, hS⟩ := hp14
 obtain ⟨s, hs, hS⟩ := Sat.openM hS
 replace hS : Sat w0 w ((MB bm pv fuel m1.made m1.shared m1.depth m1.deepest s.tr s.ow s.ca s.pa s.re s.bp) :: (rE s.tr m1.trace) :: (rI s.ow m1.owners) :: (rC s.ca m1.calls) :: (rP s.pa s.us) :: (jW (yQ s.us)) :: (rV s.re m1.recs) :: (yY s.bp m1.places) :: (SX.blk b1 [.slice pv.A pv.n pv.c] 40) :: []) := hS
 refine jQ [(4, 13, .pointer none)] ha fun a ha => ?_
 refine jY (jJ (wp_seq (xH 12 13 hS fun w hS => ?_)))
 refine jK (k := 9) [(0, 46, ptr bm 0), (1, 47, ptr bm 0), (2, 48, ptr bm 0), (3, 49, ptr bm 6)] ha (.inr hS) fun a ha => ?_
 refine qW 4 (d := 50) (b := bm) (j := 6) ha hS (fun _ hw => hw.blk 0 rfl) rfl fun a ha => ?_
 refine jK (k := 5) [(5, 51, ptr bm 0), (6, 52, ptr bm 0), (7, 53, ptr bm 2)] ha (.inr hS) fun a ha => ?_
 refine qW 8 (d := 54) (b := bm) (j := 2) ha hS (fun _ hw => hw.blk 0 rfl) rfl fun a ha => ?_
 refine jK (k := 1) [(9, 55, .agg #[iv 4, iv 0, .slice s.tr.A s.tr.n s.tr.c, iv m1.made]), (10, 56, ptr bm 0), (11, 57, ptr bm 12)] ha (.inr hS) fun a ha => ?_
 refine jH 12 (o_sa 0 ha (qU (t := 81) (x := 57) (y := 55)) hS fun w a hS ha => ?_)
 refine xJ (xX ?_)
 replace ha := ha.as [(10, .pointer none), (11, .bool false), (12, ptr bm 0), (13, .pointer none)] rfl
 refine jJ (wp_seq (wp_seq (jX [0, 1] (jQ [(0, 58, .pointer none), (1, 59, .bool false)] ha fun a ha => ?_))))
 refine jY (jJ ?_)
 refine jV ha rfl rfl ?_
 refine wp_skip (jJ (wp_seq (jX [0, 1, 2] (jQ [(0, 95, ptr bm 0), (1, 10, ptr bm 0), (2, 11, .bool true)] ha fun a ha => ?_))))
 refine jY (jJ (wp_ret ?_))
 refine end_tmp2 (t := 10) (u := 11) ha (by kernel_rfl) rfl rfl ?_
 replace hS := hS.pickN 9 [0, 1, 2, 3, 4, 5, 6, 7]
 refine ⟨bm, rfl, ?_⟩
 have hE : runS (PL l) shared f arg fuel = ⟨(⟨m1.made, m1.shared, m1.depth, m1.deepest, m1.trace, m1.owners, m1.calls, m1.panics, m1.recs, m1.places⟩ : MS), 4, 0⟩ := by unfold runS; rw [hres]; rfl
 rw [hE]
 exact Sat.shutMO (r := ⟨(⟨m1.made, m1.shared, m1.depth, m1.deepest, m1.trace, m1.owners, m1.calls, m1.panics, m1.recs, m1.places⟩ : MS), 4, 0⟩) (⟨s.tr, s.ow, s.ca, s.pa, s.re, s.us, s.bp⟩ : MSl) (hs) hS
end SX
namespace SX
open Go.RowKit Go.Proofs.Ytcbijhgepdedpaa.G Go.Proofs.YtcbijhgepdedpaaW.PrintWords Go.Proofs.YtcbijhgepdedpaaW.PrintLast Go.Proofs.YtcbijhgepdedpaaW.PrintMore
theorem bodyS_id {fuel : Int} {call : CallT} {steps : List Stp} {p : Option FS} : ∀ (k : Nat) (m : MS) (f : FS) (o : Int) (at_ : Nat) {m' : MS} {f' : FS} {o' : Int}, bodyS fuel call steps p k m f o at_ = .done m' f' o' → f'.id = f.id := by
  intro k
  induction k with
  | zero => intro m f o at_ m' f' o' h; simp [bodyS] at h
  | succ k ih =>
    intro m f o at_ m' f' o' h;simp only [bodyS] at h
    split at h
    · simp only [R3.done.injEq] at h; obtain ⟨_, rfl, _⟩ := h; rfl
    · split at h
      · cases h
      · split at h
        · exact ih _ _ _ _ h
        · split at h
          · cases h
          · rename_i hst
            simp only [R3.done.injEq] at h; obtain ⟨_, rfl, _⟩ := h;exact (stepS_fix hst).2.2
          · rename_i hst
            exact (ih _ _ _ _ h).trans (stepS_fix hst).2.2
theorem runsS_id {call : CallT} {p : Option FS} : ∀ (k : Nat) (m : MS) (f : FS) (o : Int) {m' : MS} {f' : FS} {o' : Int}, runsS call k m f p o = .done m' f' o' → f'.id = f.id := by
  intro k
  induction k with
  | zero => intro m f o m' f' o' h; simp only [runsS, R3.done.injEq] at h; obtain ⟨_, rfl, _⟩ := h; rfl
  | succ k ih =>
    intro m f o m' f' o' h;simp only [runsS] at h
    split at h
    · simp only [R3.done.injEq] at h; obtain ⟨_, rfl, _⟩ := h; rfl
    · split at h
      · cases h
      · rename_i d o1 _
        have := ih _ _ _ h;rw [this];unfold yZ
        (repeat' split) <;> rfl
def valOf (m : MS) (f : FS) : Int := if f.en = 1 then f.r1 else if f.en = 2 then panVal m.panics f.pan else 0
theorem first_val {P : List (List Stp)} (hP : ProgOk P) {fuel shared f arg : Int} (hm : OkM fuel (MS.start shared) (10 + 2)) (h0 : 0 ≤ f) (h1 : f < P.length) {m1 : MS} {f1 : FS} {o1 : Int} (h : callS P fuel 8 (MS.start shared) f arg none 0 false = .done m1 f1 o1) :
    (m1.calls.getD 0 ⟨0, 0, false, 0, 0, 0⟩).val = valOf m1 f1 := by
  have hok := callS_ok hP fuel 7
  have hlt : f.toNat < P.length := by omega
  have hsteps : ∀ s ∈ P.getD f.toNat [], StpOk P.length s := by
    rw [List.getD_eq_getElem?_getD, List.getElem?_eq_getElem hlt];exact hP.steps _ (List.getElem_mem hlt)
  simp only [callS] at h
  split at h
  · cases h
  · rename_i m2 f2 o2 hb
    split at h
    · cases h
    · rename_i m3 f3 o3 hr
      simp only [R3.done.injEq] at h;obtain ⟨rfl, rfl, rfl⟩ := h;have hme : OkM fuel ((MS.start shared).enter f arg (parId none) false) (10 + 1) := OkM.enter hm _ _ _ _
      have hfe : OkF P.length ((MS.start shared).enter f arg (parId none) false) ((MS.start shared).frame f arg false) := by
        refine ⟨?_, ?_, h0, h1, .inl rfl, fun e => by simp [MS.frame] at e, fun z hz => by simp [MS.frame] at hz⟩
        · simp only [MS.frame]; omega
        · simp only [MS.frame, MS.enter, MS.tell, List.length_append, List.length_cons, List.length_nil]; omega
      obtain ⟨g1, g2, g3⟩ := bodyS_ok (x := 10 + 1) hok hsteps _ _ _ _ _ (by simpa [MS.frame] using hme) hfe hb;obtain ⟨k1, k2, k3, k4⟩ := runsS_ok (x := 10 + 1) hok _ _ _ _ rfl g1 g3 hr;have hid : f3.id = 0 := (runsS_id _ _ _ _ hr).trans ((bodyS_id _ _ _ _ _ hb).trans rfl);have hl := k3.id1;rw [hid] at hl;obtain ⟨c0, hc0⟩ : ∃ c, m3.calls[0]? = some c := ⟨_, List.getElem?_eq_getElem (by omega)⟩
      have e : (finishS m3 f3).calls.getD 0 ⟨0, 0, false, 0, 0, 0⟩ = { c0 with en := f3.en, val := finVal m3 f3 } := by
        simp only [finishS, MS.tell, hid];rw [List.getD_eq_getElem?_getD, List.getElem?_modify, Int.toNat_zero, hc0]
        rfl
      show ((finishS m3 f3).calls.getD 0 ⟨0, 0, false, 0, 0, 0⟩).val = _
      rw [e];unfold valOf finVal;simp only [finishS, MS.tell]
      by_cases e1 : f3.en = 1
      · rw [if_pos e1, if_pos e1]
      · rw [if_neg e1, if_neg e1]
        by_cases e2 : f3.en = 2
        · rw [if_pos e2, if_pos e2, if_pos e2, panVal_panAt _ _ (fun x => { x with unw := x.unw ++ [f3.fn] }) (fun _ => rfl)]
        · rw [if_neg e2, if_neg e2]
def qStart (shared : Int) : MQ := { spent := false, shared := shared, made := 0, deep := 0, trace := [], seen := [] }
theorem qStart_ok {shared fuel : Int} (hs : -32768 ≤ shared ∧ shared ≤ 32767) (hf : 0 ≤ fuel ∧ fuel ≤ 200) : OkQ fuel (qStart shared) (10 + 2) := ⟨rfl, Int.le_refl _, hf.1, hf.2, by simp only [qStart, List.length_nil]; omega, by simp [qStart], hs⟩
def qRun (P : List (List Stp)) (shared f arg fuel : Int) : MQ × FQ := qCall P fuel 8 (qStart shared) (FQ.new f 1 arg)
def qKind (q : MQ × FQ) : Int := if q.1.spent = true then 4 else q.2.kind
def qVal (q : MQ × FQ) : Int := if q.1.spent = true then 0 else if q.2.kind = 1 then q.2.r1 else if q.2.kind = 2 then q.2.value else 0
structure Same (q : MQ × FQ) (r : RunR) : Prop where
 kind : qKind q = r.k
 val : qVal q = r.v
 made : q.1.made = r.m.made
 shared : q.1.shared = r.m.shared
 deep : q.1.deep = r.m.deepest
 trace : q.1.trace = r.m.trace
 seen : q.1.seen = r.m.places
theorem run_eq {P : List (List Stp)} (hP : ProgOk P) {shared f arg fuel : Int} (h0 : 0 ≤ f) (h1 : f < P.length) (hf : 0 ≤ fuel ∧ fuel ≤ 200) : Same (qRun P shared f arg fuel) (runS P shared f arg fuel) := by
  have hm := start_ok shared hf.1 hf.2
  have hE := call_eq hP fuel 8 (MS.start shared) (qStart shared) f arg none 0 false (FQ.new f 1 arg) 10 ⟨rfl, rfl, rfl, rfl, rfl⟩ rfl hm (fun q h => by cases h) h0 h1 rfl rfl rfl rfl rfl rfl rfl rfl rfl ⟨rfl, fun h => by simp [FQ.new] at h, fun h => by simp [FQ.new] at h⟩ rfl
  unfold runS qRun
  cases hr : callS P fuel 8 (MS.start shared) f arg none 0 false with
  | spent m1 =>
    rw [hr] at hE;obtain ⟨e1, e2⟩ := hE;exact ⟨by unfold qKind; rw [if_pos e1]; rfl, by unfold qVal; rw [if_pos e1]; rfl, e2.made, e2.shared, e2.deep, e2.trace, e2.seen⟩
  | done m1 f1 o1 =>
    rw [hr] at hE;have hv := first_val hP hm h0 h1 hr;have hsp : ¬ (qCall P fuel 8 (qStart shared) (FQ.new f 1 arg)).1.spent = true := by rw [hE.sp]; decide
    have rm : RM (runOf (.done m1 f1 o1)).m (qCall P fuel 8 (qStart shared) (FQ.new f 1 arg)).1 := by
      unfold runOf
      dsimp only
      split <;> exact ⟨hE.rm.made, hE.rm.shared, hE.rm.deep, hE.rm.trace, hE.rm.seen⟩
    refine ⟨by unfold qKind; rw [if_neg hsp]; exact hE.rf.en, ?_, rm.made, rm.shared, rm.deep, rm.trace, rm.seen⟩
    show qVal _ = (m1.calls.getD 0 ⟨0, 0, false, 0, 0, 0⟩).val
    rw [hv];unfold qVal valOf;rw [if_neg hsp, hE.rf.en]
    by_cases e1 : f1.en = 1
    · rw [if_pos e1, if_pos e1, hE.rf.a1]
    · rw [if_neg e1, if_neg e1]
      by_cases e2 : f1.en = 2
      · rw [if_pos e2, if_pos e2, hE.rf.val e2]
      · rw [if_neg e2, if_neg e2]
def cellsT (x : Stp) : List Value := [.int .i64 x.k, .int .i64 x.a, .int .i64 x.b]
def encT3 (l : List Stp) : List Value := l.flatMap cellsT
theorem cellsT_len (x : Stp) : (cellsT x).length = 3 := rfl
theorem encT3_length (l : List Stp) : (encT3 l).length = l.length * 3 := flat_length cellsT_len l
theorem encT3_one (l : List Stp) : (encT3 l).all Value.oneCell' = true := by
 rw [List.all_eq_true]
 intro v hv
 obtain ⟨x, _, hx⟩ := List.mem_flatMap.1 hv
 simp only [cellsT, List.mem_cons, List.not_mem_nil, or_false] at hx
 rcases hx with rfl | rfl | rfl <;> rfl
abbrev rowT (x : Sl × List Stp) : Asn := SX.row (.slice x.1.A x.1.n x.1.c) 98 3 (encT3 x.2)
theorem RdBody.cells {w : World} {s : Sl} {b : List Stp} (h : RdBody w s b) : ∀ j u, (encT3 b)[j]? = some u → w.cell? ⟨bk s, of_ s + j, none⟩ = some u := by
  intro j u hu
  have hl := (List.getElem?_eq_some_iff.1 hu).1
  rw [encT3_length] at hl
  have hj : j / 3 < b.length := by omega
  obtain ⟨x, hx⟩ : ∃ x, b[j / 3]? = some x := ⟨_, List.getElem?_eq_getElem hj⟩
  have h3 := h.k _ _ hx
  have h4 := h.a _ _ hx
  have h5 := h.b _ _ hx
  have hc := fun o (ho : o < 3) => flat_get (enc := cellsT) (o := o) cellsT_len hx ho
  have hr : j % 3 = 0 ∨ j % 3 = 1 ∨ j % 3 = 2 := by omega
  rcases hr with e | e | e
  · have e2 : j = j / 3 * 3 + 0 := by omega
    have h6 := hc 0 (by decide);rw [← e2, show (b.flatMap cellsT) = encT3 b from rfl, hu] at h6;rw [e2, Nat.add_zero, h3, h6]
    rfl
  · have e2 : j = j / 3 * 3 + 1 := by omega
    have h6 := hc 1 (by decide);rw [← e2, show (b.flatMap cellsT) = encT3 b from rfl, hu] at h6;rw [e2, ← Nat.add_assoc, h4, h6]
    rfl
  · have e2 : j = j / 3 * 3 + 2 := by omega
    have h6 := hc 2 (by decide);rw [← e2, show (b.flatMap cellsT) = encT3 b from rfl, hu] at h6;rw [e2, ← Nat.add_assoc, h5, h6]
    rfl
theorem own_reads {w0 w : World} {Rs : List Asn} {s : Sl} {us : List (Sl × List Stp)} {P : List (List Stp)} (hus : us.map (·.2) = P) (hS : Sat w0 w (SX.row (.slice s.A s.n s.c) 95 1 (encS (us.map (·.1))) :: jW (us.map rowT) :: Rs)) :
    RdProg w s (us.map (·.1)) P := by
  have hlen : us.length = P.length := by rw [← hus, List.length_map]
  have hn := hS.rowN (s := s) 0 rfl
  rw [encS_length, List.length_map, Nat.mul_one] at hn
  have hrd := hS.rdC (s := s) 0 rfl
  have hA : 0 < P.length → s.A = some ⟨bk s, 0, none⟩ := fun h => hS.rowA (s := s) 0 rfl (by rw [encS_length, List.length_map]; omega)
  have hof : 0 < P.length → of_ s = 0 := fun h => by have h9 := hA h; unfold of_; rw [h9]; rfl
  refine ⟨by omega, fun h => by rw [hof h]; exact hA h, fun i b hb => ?_⟩
  have hi : i < P.length := (List.getElem?_eq_some_iff.1 hb).1
  rw [← hus, List.getElem?_map] at hb
  obtain ⟨x, hx, rfl⟩ := Option.map_eq_some_iff.1 hb
  refine ⟨x.1, by rw [List.getElem?_map, hx]; rfl, ?_, ?_⟩
  · have h9 := hrd.cells i x.1.v (by rw [encS, List.getElem?_map, List.getElem?_map, hx]; rfl)
    rw [hof (by omega), Nat.zero_add];exact h9
  · have h1 : Sat w0 w (jW (us.map rowT) :: SX.row (.slice s.A s.n s.c) 95 1 (encS (us.map (·.1))) :: Rs) := hS.perm (List.Perm.swap _ _ _)
    have h2 := Sat.takeAt (g := rowT) hx h1;have hl := h2.rowL (s := x.1) (enc := cellsT) 0 cellsT_len (by decide) rfl;have hA2 : 0 < x.2.length → x.1.A = some ⟨bk x.1, 0, none⟩ := fun h => h2.rowA (s := x.1) 0 rfl (by rw [encT3_length]; omega);have ho2 : 0 < x.2.length → of_ x.1 = 0 := fun h => by have h9 := hA2 h; unfold of_; rw [h9]; rfl
    have hr2 := h2.rdC (s := x.1) 0 rfl
    have hc : ∀ (j : Nat) (y : Stp), x.2[j]? = some y → ∀ o, o < 3 → w.cell? ⟨bk x.1, of_ x.1 + j * 3 + o, none⟩ = (cellsT y)[o]? := fun j y hy o ho => by
      have hp : 0 < x.2.length := by have := (List.getElem?_eq_some_iff.1 hy).1; omega
      rw [ho2 hp, Nat.zero_add, ← flat_get (enc := cellsT) cellsT_len hy ho];obtain ⟨u, hu⟩ : ∃ u, (x.2.flatMap cellsT)[j * 3 + o]? = some u := ⟨_, (flat_get (enc := cellsT) cellsT_len hy ho).trans (List.getElem?_eq_getElem ho)⟩;rw [hu];exact hr2.cells _ _ hu
    exact ⟨hl, fun h => by rw [ho2 h]; exact hA2 h, fun j y hy => by have := hc j y hy 0 (by decide); rw [Nat.add_zero] at this; exact this, fun j y hy => hc j y hy 1 (by decide), fun j y hy => hc j y hy 2 (by decide)⟩
section
variable {P : Program} {R : Array Oper} {Q : Exit → Act → World → Prop} {n : Nat} {e : Env} {a : Act} {w w0 : World} {Rs : List Asn}
theorem run_append_owned_zero (base : Nat) (t ty e : TypeId) (i : TypeInfo) (size : Nat) (ht : P.underlying t = some (.slice e)) (hi : P.info? e = some i)
  (v : Value) (n : Nat) (xs : List Value) (hown : w.ownsRow base e size v n xs) (A : Option Addr) (c : Nat) :
  (Builtin.append_ #[t, t] ty #[v, .slice A 0 c]).run P w = .ok v w := by
 rcases hown.2 with ⟨rfl, rfl⟩ | ⟨g, cap, cur, rfl, _, _, hnc, _⟩
 · cases A <;> simp [Builtin.append_, run_underlying ht, sizeOf, typeInfo, hi, Builtin.lenOf, Builtin.firstCells, loadCells, loadCellsFrom, storeCells]
 · cases A <;> simp [Builtin.append_, run_underlying ht, sizeOf, typeInfo, hi, Builtin.lenOf, Builtin.firstCells, hnc, loadCells, loadCellsFrom, storeCells]
theorem o_appRd0 {i d : Nat} {s x : Operand} {t el ty : TypeId} {sz bytes b : Nat} {u : Sl} {ys : List Value} {z : Value} {K : Act → World → Prop} (p : Nat) (h : Has n e a) (hd : d < n)
    (ho : AtW R i (.call { callee := .builtin .append, args := #[s, x], argTypes := #[t, t] }) (some d) ty a) (hs : ev e s = some (.slice (some ⟨b, 0, none⟩) 0 0)) (hx : ev e x = some (.slice u.A u.n u.c))
    (ht : P.underlying t = some (.slice el)) (hinfo : (P.info? el).map (fun i => (i.zero, i.size, i.bytes)) = some (some z, sz, bytes)) (hz : z.cells.size = sz) (hsz : 0 < sz)
    (hS : Sat w0 w Rs) (hp : Rs[p]? = some (SX.blk b [] el)) (hl : ys.length = u.n * sz) (hA : 0 < u.n → u.A = some ⟨bk u, of_ u, none⟩) (hc : ∀ j v, ys[j]? = some v → w.cell? ⟨bk u, of_ u + j, none⟩ = some v) (h1 : ys.all Value.oneCell' = true) (hlen : ys.length ≤ 1000000000) (hby : bytes ≤ 100000 * sz)
    (k : ∀ (z : Sl) w' a', Sat w0 w' (Rs.set p (SX.row (.slice z.A z.n z.c) el sz ys)) → Has n ((d, .slice z.A z.n z.c) :: e) a' → K a' w') : wpOp P R Q i K a w := by
  obtain ⟨i0, hi, hzz⟩ := Option.map_eq_some_iff.1 hinfo
  simp only [Prod.mk.injEq] at hzz
  obtain ⟨hz0, hz1, hz2⟩ := hzz
  have hpl : p < Rs.length := (List.getElem?_eq_some_iff.1 hp).1
  have hS1 := hS.blk0 sz p hp
  obtain ⟨n0, hown⟩ := hS1.row p (by rw [List.getElem?_set_self hpl])
  have hn0 : n0 = 0 := by
    have h9 := hown.1;simp only [List.length_nil] at h9
    rcases Nat.eq_zero_or_pos n0 with h0 | h0
    · exact h0
    · have := Nat.mul_pos h0 hsz; omega
  subst hn0
  rcases Nat.eq_zero_or_pos u.n with hu0 | hup
  · rw [hu0] at hx hl
    have hr := run_append_owned_zero (P := P) (w := w) 0 t ty el i0 sz ht hi _ _ _ hown u.A u.c
    have hrun : (execOp (evD e) (opr (.call { callee := .builtin .append, args := #[s, x], argTypes := #[t, t] }) ty)).run P w = .ok (.value (.slice (some ⟨b, 0, none⟩) 0 0)) w := by
      simp [execOp, opr, resolve, invoke, builtin, evD, hs, hx, hr]
    obtain rfl : ys = [] := List.eq_nil_of_length_eq_zero (by omega);exact o_val h hd ho (by simp [covers, Op.operands, Call.operands, hs, hx, notSelect]) hrun fun a' ha => k ⟨some ⟨b, 0, none⟩, 0, 0⟩ w a' hS1 ha
  · rw [hA hup] at hx
    have hcells : ∀ j v, ys[j]? = some v → w.cell? ((⟨bk u, of_ u, none⟩ : Addr).add j) = some v := fun j v hv => by rw [add0]; exact hc j v hv
    have hm1 : u.n ≤ 1000000000 := Nat.le_trans (Nat.le_mul_of_pos_right _ hsz) (by omega)
    have hbytes : (0 + u.n) * bytes ≤ 140737488355328 := by
      have h2 : u.n * bytes ≤ u.n * (100000 * sz) := Nat.mul_le_mul_left _ hby;have h3 : u.n * (100000 * sz) = 100000 * (u.n * sz) := by rw [Nat.mul_left_comm]
      rw [Nat.zero_add]
      omega
    obtain ⟨v', w', hr, h2, h3, h4, h5⟩ := run_append_own_at (P := P) w 0 t ty el i0 z sz bytes ht hi hz0 hz1 hz2 hz hsz _ 0 [] hown ⟨bk u, of_ u, none⟩ u.n u.c ys hl hcells (fun v hv => List.all_eq_true.1 h1 v hv) (by simp only [maxLen]; omega) hbytes (Nat.zero_le _)
    have hrun : (execOp (evD e) (opr (.call { callee := .builtin .append, args := #[s, x], argTypes := #[t, t] }) ty)).run P w = .ok (.value v') w' := by
      simp [execOp, opr, resolve, invoke, builtin, evD, hs, hx, hr]
    have hS' : Sat w0 w' (Rs.set p (SX.row v' el sz ys)) := by
      have h9 := hS1.upd (i := p) (R := SX.row (.slice (some ⟨b, 0, none⟩) 0 0) el sz []) (w' := w') (by rw [List.getElem?_set_self hpl]) (SX.row v' el sz ys) h3.os h3.tape h3.output h3.size fun F hF => ⟨fun k => v'.ownBlock = some k, ⟨fun _ => Iff.rfl, _, by simpa using h2⟩, fun k hk => ?_, fun k hk hF' => h3.block k hk fun e => hF' ((hF.1 k).2 e.symm)⟩
      · rwa [List.set_set] at h9
      · rcases h5 with h5 | h5
        · exact .inl ((hF.1 k).2 (by rw [← h5]; exact hk))
        · rw [h5] at hk
          injection hk with hk
          exact .inr (by omega)
    obtain ⟨A, nn, cc, rfl, hnn⟩ : ∃ A nn cc, v' = .slice A nn cc ∧ nn = 0 + u.n := by
      rcases h2.2 with ⟨rfl, hn0⟩ | ⟨g, cap, cur, rfl, _⟩
      · exact ⟨none, 0, 0, rfl, hn0.symm⟩
      · exact ⟨_, _, cap, rfl, rfl⟩
    exact o_val h hd ho (by simp [covers, Op.operands, Call.operands, hs, hx, notSelect]) hrun fun a' ha => k ⟨A, nn, cc⟩ w' a' hS' ha
end
end SX
namespace SX
open Go.RowKit
open Go.Proofs.Ytcbijhgepdedpaa.G Go.Proofs.YtcbijhgepdedpaaW.PrintWords Go.Proofs.YtcbijhgepdedpaaW.PrintLast Go.Proofs.YtcbijhgepdedpaaW.PrintMore
theorem code73 : Try.f73.body = some (Code.seq (cr Try.f73 0 false) (Code.seq (cr Try.f73 1 false) (Code.seq (Code.seq (cr Try.f73 2 false) (Code.block 0 (Code.loop (Code.seq (Code.seq (cr Try.f73 3 false) (Code.cond (Operand.tmp 11) Code.skip (Code.exit 0))) (Code.seq (Code.block 1 (cr Try.f73 5 true)) (cr Try.f73 4 false)))))) (Code.seq (cr Try.f73 6 false) Code.ret)))) := by kernel_rfl
theorem q_own {w0 w : World} {Rs : List Asn} {P : List (List Stp)} {pv : Sl} {sbs : List Sl} (hS : Sat w0 w Rs) (hl : P.length ≤ 6) (h8 : ∀ b ∈ P, b.length ≤ 8) (hPr : Keeps w0 Rs (fun w => RdProg w pv sbs P)) :
  Calls Try.prog 73 #[.agg #[.slice pv.A pv.n pv.c]] w (Ret fun r w' => ∃ (o : Sl) (us : List (Sl × List Stp)), us.map (·.2) = P ∧ r = .agg #[.slice o.A o.n o.c] ∧ Sat w0 w' (SX.row (.slice o.A o.n o.c) 95 1 (encS (us.map (·.1))) :: jW (us.map rowT) :: Rs)) := by
 have hpn := (hPr w hS).len
 have hpA := (hPr w hS).A
 refine enter (n := 27) Try.func73 code73 (by kernel_rfl) (Nat.le_of_ble_eq_true rfl) (fun a ha => ?_)
 replace ha : Has 27 [(0, .agg #[.slice pv.A pv.n pv.c])] a := ha
 refine wp_seq (jX [0, 1] (jZ (qJ 1 [.slice pv.A pv.n pv.c] 40 (ptr · 0) ha hS fun b1 w a hb2 hS ha => ?_)))
 refine jZ (qJ 2 [.slice none 0 0] 40 (ptr · 0) ha hS fun b3 w a hb4 hS ha => ?_)
 refine jY (jJ (wp_seq (jX [0, 1, 2, 3] (jZ (qJ 5 [] 95 (fun b => .slice (some ⟨b, 0, none⟩) 0 0) ha hS fun b5 w a hb6 hS ha => ?_)))))
 refine jQ [(1, 6, .agg #[.slice (some ⟨b5, 0, none⟩) 0 0])] ha fun a ha => ?_
 refine jZ (qJ 3 [.slice none 0 0] 40 (ptr · 0) ha hS fun b7 w a hb8 hS ha => ?_)
 refine jZ (o_sa 0 ha (qU (t := 40) (x := 3) (y := 6)) hS fun w a hS ha => ?_)
 refine jY (jJ (wp_seq (wp_seq (jX [0] (jQ [(0, 4, iv 0)] ha fun a ha => ?_)))))
 refine jY (jJ (wp_block ?_))
 replace hS := Sat.merge (l := []) (hS.blk0 1 1 rfl)
 replace hS := hS.pickN 5 [4, 3, 1, 2, 0]
 refine wp_loop_ghost (fun n_ a_ w_ => ∃ (i : Nat) (us : List (Sl × List Stp)) (o : Sl), n_ = P.length - i ∧ (i ≤ P.length) ∧ (us.map (·.2) = P.take i) ∧ Has 27 [(1, ptr b1 0), (2, ptr b3 0), (3, ptr b7 0), (4, iv (i : Int))] a_ ∧ Sat w0 w_ ((SX.blk b1 [.slice pv.A pv.n pv.c] 40) :: (SX.blk b3 [.slice none 0 0] 40) :: (SX.blk b7 [.slice o.A o.n o.c] 40) :: (SX.row (.slice o.A o.n o.c) 95 1 (encS (us.map (·.1)))) :: (jW (us.map rowT)) :: Rs)) _ ⟨0, [], ⟨some ⟨b5, 0, none⟩, 0, 0⟩, rfl, Nat.zero_le _, rfl, ha.keeps [1, 2, 3, 4] _ rfl, hS⟩ ?_
 rintro n_ a w ⟨i, us, o, rfl, hi, hus, ha, hS⟩
 refine wp_seq (wp_seq (jX [0, 1, 2, 3, 4] (jQ [(0, 7, iv (i : Int)), (1, 8, ptr b1 0)] ha fun a ha => ?_)))
 refine jU (d := 9) (b := b1) (j := 0) ha (hS.blk 0 rfl) rfl fun a ha => ?_
 refine jQ [(3, 10, iv (pv.n : Int)), (4, 11, .bool (decide ((i : Int) < (pv.n : Int))))] ha fun a ha => ?_
 refine jY (jJ ?_)
 by_cases c9 : (i : Int) < (pv.n : Int)
 ·
  have hlt : i < P.length := by have := c9; omega
  obtain ⟨body, hb⟩ : ∃ b, P[i]? = some b := ⟨_, List.getElem?_eq_getElem hlt⟩
  obtain ⟨sb, hbn, hbA, hsb⟩ := RdProg.body hPr (Sat.rest [_, _, _, _, _] hS) hb
  refine jG ha rfl (decide_eq_true c9) ?_
  refine wp_skip (jJ (wp_seq (wp_block (xY 12 13 (hS.pickN 5 [0, 1, 2]) hS fun w hS => ?_))))
  refine jK (k := 12) [(0, 14, ptr b7 0)] ha (.inr (hS.pickN 5 [0, 1, 2])) fun a ha => ?_
  refine qW 1 (d := 15) (b := b7) (j := 0) ha (hS.pickN 5 [0, 1, 2]) (fun _ hw => hw.blk 2 rfl) rfl fun a ha => ?_
  refine jK (k := 10) [(3, 17, ptr b1 0)] ha (.inr (hS.pickN 5 [0, 1, 2])) fun a ha => ?_
  refine qW 4 (d := 18) (b := b1) (j := 0) ha (hS.pickN 5 [0, 1, 2]) (fun _ hw => hw.blk 0 rfl) rfl fun a ha => ?_
  refine jK (k := 8) [(5, 19, iv (i : Int))] ha (.inr (hS.pickN 5 [0, 1, 2])) fun a ha => ?_
  refine zQ 6 (.pointer (some ⟨bk pv, of_ pv + i * 1, none⟩)) ha (kX (s := pv) (el := 95) (sz := 1) (j := i) ha (yU (t := 38) (x := 18) (y := 19) (d := 20)) rfl rfl (by kernel_rfl) (by kernel_rfl) (hpA (by omega)) (by omega)) (.inr (hS.pickN 5 [0, 1, 2])) fun a ha => ?_
  refine zH 7 (.slice sb.A sb.n sb.c) ha (zK ha (zV (t := 95) (x := 20) (d := 21) (ty := 95)) rfl (by kernel_rfl) (fun w' hw => by rw [Nat.mul_one]; exact ((hsb.more [_, _, _]) _ hw).1)) (hS.pickN 5 [0, 1, 2]) fun a ha => ?_
  refine jH 2 (qJ 16 [] 98 (fun b => .slice (some ⟨b, 0, none⟩) 0 0) ha hS fun b10 w a hb11 hS ha => ?_)
  refine ⟨.inr (hS.pickN 6 [1, 2, 3]), ?_⟩
  refine jH 8 (o_appRd0 (u := sb) (z := .agg #[iv 0, iv 0, iv 0]) (sz := 3) (bytes := 24) (ys := encT3 body) 0 ha (by decide) (zW (op := (Op.call { callee := (Callee.builtin Builtin.append), args := #[(Operand.tmp 16), (Operand.tmp 21)], argTypes := #[95, 95] })) (d := some 22) (ty := 95)) rfl rfl (by kernel_rfl) (by kernel_rfl) rfl (by decide) hS rfl (by rw [encT3_length, hbn]) (fun h => hbA (by omega)) ((hsb.more [_, _, _, _, _, _]) _ hS).2.cells (encT3_one _) (by rw [encT3_length]; have := h8 body (List.mem_of_getElem? hb); omega) (by decide) fun s12 w a hS ha => ?_)
  refine ⟨.inr (hS.pickN 6 [1, 2, 3]), ?_⟩
  refine jH 9 (qJ 23 [.slice s12.A s12.n s12.c] 95 (fun b => .slice (some ⟨b, 0, none⟩) 1 1) ha hS fun b13 w a hb14 hS ha => ?_)
  refine ⟨.inr (hS.pickN 7 [2, 3, 4]), ?_⟩
  refine jH 10 (o_ap 24 5 0 (encS ((us.map (·.1)) ++ [s12])) ha hS rfl rfl (by rw [encS_length, List.length_map]; have h9 := congrArg List.length hus; rw [List.length_map, List.length_take] at h9; simp only [List.length_cons, List.length_nil]; omega) (encS_snoc _ _) fun s18 w a hS hn19 ha => ?_)
  refine ⟨.inr (hS.pickN 7 [2, 3, 4]), ?_⟩
  refine jK (k := 1) [(11, 25, ptr b7 0)] ha (.inr (hS.pickN 7 [2, 3, 4])) fun a ha => ?_
  refine jH 12 (qH b7 0 (.slice s18.A s18.n s18.c) 4 ha hS rfl rfl fun w a hS ha => ?_)
  refine xJ (xX (in_n (jJ (jX [0, 1, 2] (jQ [(0, 12, iv (i : Int))] ha fun a ha => ?_)))))
  refine zJ 13 ((i : Int) + 1) ha fun a ha => ?_
  refine jQ [(2, 4, iv ((i : Int) + 1))] ha fun a ha => ?_
  refine jY (jJ ?_)
  replace hS := hS.pickN 7 [1, 6, 2, 3, 4, 5]
  replace hS : Sat w0 w ((jW ((us ++ [(s12, body)]).map rowT)) :: (SX.blk b1 [.slice pv.A pv.n pv.c] 40) :: (SX.blk b3 [.slice none 0 0] 40) :: (SX.blk b7 [.slice s18.A s18.n s18.c] 40) :: (SX.row (.slice s18.A s18.n s18.c) 95 1 (encS ((us.map (·.1)) ++ [s12]))) :: Rs) := by have hh := Sat.gainLast (R := rowT (s12, body)) hS; rw [List.map_append]; exact hh
  replace hS : Sat w0 w ((jW ((us ++ [(s12, body)]).map rowT)) :: (SX.blk b1 [.slice pv.A pv.n pv.c] 40) :: (SX.blk b3 [.slice none 0 0] 40) :: (SX.blk b7 [.slice s18.A s18.n s18.c] 40) :: (SX.row (.slice s18.A s18.n s18.c) 95 1 (encS ((us ++ [(s12, body)]).map (·.1)))) :: Rs) := by rw [show (us ++ [(s12, body)]).map (·.1) = us.map (·.1) ++ [s12] by rw [List.map_append]; rfl]; exact hS
  replace hS := hS.pickN 5 [1, 2, 3, 4, 0]
  exact ⟨_, by omega, i + 1, us ++ [(s12, body)], s18, rfl, by omega, by rw [List.map_append, hus, List.take_add_one, hb]; rfl, ha.keeps [1, 2, 3, 4] _ rfl, hS⟩
 refine jV ha rfl (decide_eq_false c9) ?_
 refine wp_exit (yX (yX (in_x (jJ (wp_seq (jX [0, 1] (xG 26 ha (hS.blk 2 rfl) fun a ha => ?_)))))))
 refine jZ (o_sa 1 ha (qU (t := 40) (x := 2) (y := 26)) hS fun w a hS ha => ?_)
 refine jY (jJ (wp_ret (qK ha (by kernel_rfl) (xZ (t := 2) (ty := 40) (i := 1) ha rfl hS rfl (by kernel_rfl)) ?_)))
 replace hS := hS.pickN 5 [3, 4]
 have hie : i = P.length := by have := c9; omega
 exact ⟨o, us, by rw [hus, hie, List.take_length], rfl, hS⟩
theorem code62 : Try.f62.body = some (Code.seq (cr Try.f62 0 false) (Code.seq (cr Try.f62 1 false) (Code.seq (Code.block 0 (Code.seq (cr Try.f62 2 false) (Code.cond (Operand.tmp 13) (cr Try.f62 3 false) (Code.seq (cr Try.f62 4 false) (Code.cond (Operand.tmp 17) (cr Try.f62 5 false) (Code.seq (cr Try.f62 6 false) (Code.cond (Operand.tmp 25) (cr Try.f62 7 false) Code.skip))))))) (Code.seq (cr Try.f62 8 false) Code.ret)))) := by kernel_rfl
theorem q_told {w0 w : World} {Rs : List Asn} {o : Sl} {fuel : Int} (q : MQ) (c : FQ) {tr se df : Sl} (hS : Sat w0 w Rs) :
  Calls Try.prog 62 #[mV o fuel q tr se, cV c df] w (Ret fun r w' => r = oG (qKind (q, c)) (qVal (q, c)) tr q.made ∧ Sat w0 w' Rs) := by
 refine enter (n := 33) Try.func62 code62 (by kernel_rfl) (Nat.le_of_ble_eq_true rfl) (fun a ha => ?_)
 replace ha : Has 33 [(0, (mG o fuel q.spent q.shared q.made q.deep tr se)), (1, (cG c.f c.depth c.r0 c.r1 c.r2 c.r3 df c.kind c.value c.leaving c.deferred c.panicking c.panic c.recovered c.outer))] a := ha
 refine wp_seq (jX [0, 1, 2] (jZ (qJ 2 (mL o fuel q.spent q.shared q.made q.deep tr se) 121 (ptr · 0) ha hS fun b1 w a hb2 hS ha => ?_)))
 refine jZ (qJ 3 (cL c.f c.depth c.r0 c.r1 c.r2 c.r3 df c.kind c.value c.leaving c.deferred c.panicking c.panic c.recovered c.outer) 124 (ptr · 0) ha hS fun b3 w a hb4 hS ha => ?_)
 refine jZ (qJ 4 [iv 0, iv 0, .slice none 0 0, iv 0] 81 (ptr · 0) ha hS fun b5 w a hb6 hS ha => ?_)
 refine jY (jJ (wp_seq (jX [0, 1, 2, 3, 4, 5, 6, 7, 8] (jQ [(0, 6, ptr b3 7)] ha fun a ha => ?_))))
 refine jU (d := 7) (b := b3) (j := 7) ha (hS.blk 1 rfl) rfl fun a ha => ?_
 refine jQ [(2, 8, ptr b1 6)] ha fun a ha => ?_
 refine jU (d := 9) (b := b1) (j := 6) ha (hS.blk 2 rfl) rfl fun a ha => ?_
 refine jQ [(4, 10, ptr b1 4)] ha fun a ha => ?_
 refine jU (d := 11) (b := b1) (j := 4) ha (hS.blk 2 rfl) rfl fun a ha => ?_
 refine jQ [(6, 12, (oG c.kind 0 tr q.made))] ha fun a ha => ?_
 refine jZ (qJ 5 [iv 0, iv 0, .slice none 0 0, iv 0] 81 (ptr · 0) ha hS fun b7 w a hb8 hS ha => ?_)
 refine jZ (o_sa 0 ha (qU (t := 81) (x := 5) (y := 12)) hS fun w a hS ha => ?_)
 refine jY (jJ (wp_seq (wp_block (wp_seq (jX [0, 1, 2] (jQ [(0, 14, ptr b1 2)] ha fun a ha => ?_))))))
 refine jU (d := 15) (b := b1) (j := 2) ha (hS.blk 3 rfl) rfl fun a ha => ?_
 refine jQ [(2, 13, .bool q.spent)] ha fun a ha => ?_
 refine jY (jJ ?_)
 rcases Bool.eq_false_or_eq_true q.spent with c9 | c9
 ·
  refine jG ha rfl c9 ?_
  refine jX [0, 1] (jQ [(0, 16, ptr b7 0)] ha fun a ha => ?_)
  refine jZ (qH b7 0 (iv 4) 0 ha hS rfl rfl fun w a hS ha => ?_)
  refine jY (in_n (jJ (wp_seq (jX [0, 1] (xG 32 ha (hS.blk 0 rfl) fun a ha => ?_)))))
  refine jZ (o_sa 1 ha (qU (t := 81) (x := 4) (y := 32)) hS fun w a hS ha => ?_)
  refine jY (jJ (wp_ret (qK ha (by kernel_rfl) (xZ (t := 4) (ty := 81) (i := 1) ha rfl hS rfl (by kernel_rfl)) ?_)))
  have e1 : qKind (q, c) = 4 := by unfold qKind; simp only [c9, if_true, if_false, Bool.false_eq_true]
  have e2 : qVal (q, c) = 0 := by unfold qVal; simp only [c9, if_true, if_false, Bool.false_eq_true, show ¬ ((2 : Int) = 1) by decide]
  rw [e1, e2]
  exact ⟨rfl, Sat.rest [_, _, _, _] hS⟩
 refine jV ha rfl c9 ?_
 refine wp_seq (jX [0, 1, 2, 3] (jQ [(0, 18, ptr b3 7)] ha fun a ha => ?_))
 refine jU (d := 19) (b := b3) (j := 7) ha (hS.blk 2 rfl) rfl fun a ha => ?_
 refine jQ [(2, 20, .bool (decide (c.kind = 1))), (3, 17, .bool (decide (c.kind = 1)))] ha fun a ha => ?_
 refine jY (jJ ?_)
 by_cases c10 : c.kind = 1
 ·
  refine jG ha rfl (decide_eq_true c10) ?_
  refine jX [0, 1, 2, 3, 4] (jQ [(0, 21, ptr b3 2), (1, 22, ptr b3 3)] ha fun a ha => ?_)
  refine jU (d := 23) (b := b3) (j := 3) ha (hS.blk 2 rfl) rfl fun a ha => ?_
  refine jQ [(3, 24, ptr b7 1)] ha fun a ha => ?_
  refine jZ (qH b7 1 (iv c.r1) 0 ha hS rfl rfl fun w a hS ha => ?_)
  refine jY ?_
  replace ha := ha.as [(4, ptr b5 0), (5, ptr b7 0)] rfl
  refine in_n (jJ (wp_seq (jX [0, 1] (xG 32 ha (hS.blk 0 rfl) fun a ha => ?_))))
  refine jZ (o_sa 1 ha (qU (t := 81) (x := 4) (y := 32)) hS fun w a hS ha => ?_)
  refine jY (jJ (wp_ret (qK ha (by kernel_rfl) (xZ (t := 4) (ty := 81) (i := 1) ha rfl hS rfl (by kernel_rfl)) ?_)))
  have e1 : qKind (q, c) = c.kind := by unfold qKind; simp only [c9, c10, if_true, if_false, Bool.false_eq_true]
  have e2 : qVal (q, c) = c.r1 := by unfold qVal; simp only [c9, c10, if_true, if_false, Bool.false_eq_true, show ¬ ((2 : Int) = 1) by decide]
  rw [e1, e2]
  exact ⟨rfl, Sat.rest [_, _, _, _] hS⟩
 refine jV ha rfl (decide_eq_false c10) ?_
 refine wp_seq (jX [0, 1, 2, 3] (jQ [(0, 26, ptr b3 7)] ha fun a ha => ?_))
 refine jU (d := 27) (b := b3) (j := 7) ha (hS.blk 2 rfl) rfl fun a ha => ?_
 refine jQ [(2, 28, .bool (decide (c.kind = 2))), (3, 25, .bool (decide (c.kind = 2)))] ha fun a ha => ?_
 refine jY ?_
 replace ha := ha.as [(3, ptr b3 0), (4, ptr b5 0), (5, ptr b7 0), (25, .bool (decide (c.kind = 2)))] rfl
 refine jJ ?_
 by_cases c11 : c.kind = 2
 ·
  refine jG ha rfl (decide_eq_true c11) ?_
  refine jX [0, 1, 2, 3] (jQ [(0, 29, ptr b3 8)] ha fun a ha => ?_)
  refine jU (d := 30) (b := b3) (j := 8) ha (hS.blk 2 rfl) rfl fun a ha => ?_
  refine jQ [(2, 31, ptr b7 1)] ha fun a ha => ?_
  refine jZ (qH b7 1 (iv c.value) 0 ha hS rfl rfl fun w a hS ha => ?_)
  refine jY (in_n (jJ (wp_seq (jX [0, 1] (xG 32 ha (hS.blk 0 rfl) fun a ha => ?_)))))
  refine jZ (o_sa 1 ha (qU (t := 81) (x := 4) (y := 32)) hS fun w a hS ha => ?_)
  refine jY (jJ (wp_ret (qK ha (by kernel_rfl) (xZ (t := 4) (ty := 81) (i := 1) ha rfl hS rfl (by kernel_rfl)) ?_)))
  have e1 : qKind (q, c) = c.kind := by unfold qKind; simp only [c9, c10, c11, if_true, if_false, Bool.false_eq_true]
  have e2 : qVal (q, c) = c.value := by unfold qVal; simp only [c9, c10, c11, if_true, if_false, Bool.false_eq_true, show ¬ ((2 : Int) = 1) by decide]
  rw [e1, e2]
  exact ⟨rfl, Sat.rest [_, _, _, _] hS⟩
 refine jV ha rfl (decide_eq_false c11) ?_
 refine wp_skip (in_n (jJ (wp_seq (jX [0, 1] (xG 32 ha (hS.blk 0 rfl) fun a ha => ?_)))))
 refine jZ (o_sa 1 ha (qU (t := 81) (x := 4) (y := 32)) hS fun w a hS ha => ?_)
 refine jY (jJ (wp_ret (qK ha (by kernel_rfl) (xZ (t := 4) (ty := 81) (i := 1) ha rfl hS rfl (by kernel_rfl)) ?_)))
 have e1 : qKind (q, c) = c.kind := by unfold qKind; simp only [c9, c10, c11, if_true, if_false, Bool.false_eq_true]
 have e2 : qVal (q, c) = 0 := by unfold qVal; simp only [c9, c10, c11, if_true, if_false, Bool.false_eq_true, show ¬ ((2 : Int) = 1) by decide]
 rw [e1, e2]
 exact ⟨rfl, Sat.rest [_, _, _, _] hS⟩
theorem code61 : Try.f61.body = some (Code.seq (cr Try.f61 0 false) (Code.seq (cr Try.f61 1 false) (Code.seq (cr Try.f61 2 false) Code.ret))) := by kernel_rfl
theorem q_whole {w0 w : World} {Rs : List Asn} {P : List (List Stp)} (hP : ProgOk P) {pv : Sl} {sbs : List Sl} {f arg fuel : Int} (hS : Sat w0 w Rs) (hf0 : 0 ≤ f) (hf1 : f < P.length) (harg : -32768 ≤ arg ∧ arg ≤ 32767) (hfu : 0 ≤ fuel ∧ fuel ≤ 200) (hPr : Keeps w0 Rs (fun w => RdProg w pv sbs P)) :
  Calls Try.prog 61 #[.agg #[.slice pv.A pv.n pv.c], .int .i64 f, .int .i64 arg, .int .i64 fuel] w (Ret fun r w' => ∃ (q : MQ × FQ) (o tr se df : Sl), q = qRun P 0 f arg fuel ∧ r = .tuple #[mV o fuel q.1 tr se, cV q.2 df] ∧ Sat w0 w' (rE tr q.1.trace :: rS se q.1.seen :: Rs)) := by
 have hsh : -32768 ≤ (0 : Int) ∧ (0 : Int) ≤ 32767 := by decide
 refine enter (n := 24) Try.func61 code61 (by kernel_rfl) (Nat.le_of_ble_eq_true rfl) (fun a ha => ?_)
 replace ha : Has 24 [(0, .agg #[.slice pv.A pv.n pv.c]), (1, iv f), (2, iv arg), (3, iv fuel)] a := ha
 refine wp_seq (jX [0, 1, 2] (jZ (qJ 4 [.slice pv.A pv.n pv.c] 40 (ptr · 0) ha hS fun b1 w a hb2 hS ha => ?_)))
 refine jZ (qJ 8 (mL (⟨none, 0, 0⟩) 0 false 0 0 0 (⟨none, 0, 0⟩) (⟨none, 0, 0⟩)) 121 (ptr · 0) ha hS fun b3 w a hb4 hS ha => ?_)
 refine jZ (qJ 9 (cL 0 0 0 0 0 0 (⟨none, 0, 0⟩) 0 0 false false false 0 false 0) 124 (ptr · 0) ha hS fun b5 w a hb6 hS ha => ?_)
 refine jY (jJ (wp_seq (jX [0, 1, 2, 3, 4, 5, 6] (xG 11 ha (hS.blk 2 rfl) fun a ha => ?_))))
 refine jZ (qG 12 (vs := [.agg #[.slice pv.A pv.n pv.c]]) ha (q_own hS hP.few hP.short (hPr.more [_, _, _])) fun v7 w a hp8 ha => ?_)
 obtain ⟨o, us, hus, rfl, hS⟩ := hp8
 refine jQ [(2, 13, iv fuel)] ha fun a ha => ?_
 refine jZ (qJ 14 [] 57 (fun b => .slice (some ⟨b, 0, none⟩) 0 0) ha hS fun b9 w a hb10 hS ha => ?_)
 refine jQ [(4, 15, .agg #[.slice o.A o.n o.c, iv fuel, .bool false, iv 0, iv 0, iv 0, .slice (some ⟨b9, 0, none⟩) 0 0, .slice none 0 0])] ha fun a ha => ?_
 refine jZ (qJ 10 (mL (⟨none, 0, 0⟩) 0 false 0 0 0 (⟨none, 0, 0⟩) (⟨none, 0, 0⟩)) 121 (ptr · 0) ha hS fun b11 w a hb12 hS ha => ?_)
 refine jZ (o_sa 0 ha (qU (t := 121) (x := 10) (y := 15)) hS fun w a hS ha => ?_)
 refine jY (jJ (wp_seq (jX [0, 1, 2, 3, 4, 5, 6, 7, 8, 9] (xG 16 ha (hS.blk 0 rfl) fun a ha => ?_))))
 refine jQ [(1, 17, iv f), (2, 18, iv arg), (3, 19, .agg #[iv arg, iv 0, iv 0, iv 0]), (4, 20, (cG f 1 arg 0 0 0 (⟨none, 0, 0⟩) 0 0 false false false 0 false 0))] ha fun a ha => ?_
 refine jZ (qG 21 (vs := [.agg #[.slice o.A o.n o.c, iv fuel, .bool false, iv 0, iv 0, iv 0, .slice (some ⟨b9, 0, none⟩) 0 0, .slice none 0 0], (cG f 1 arg 0 0 0 (⟨none, 0, 0⟩) 0 0 false false false 0 false 0)]) ha (q_calls hP fuel o (us.map (·.1)) 8 w0 _ _ (qStart 0) (FQ.new f 1 arg) (⟨some ⟨b9, 0, none⟩, 0, 0⟩ : Sl) (⟨none, 0, 0⟩ : Sl) (⟨none, 0, 0⟩ : Sl) 10 ((Sat.nilRow (T := 61) (sz := 2) (Sat.nilRow (T := 61) (sz := 2) (hS.blk0 3 1 rfl))).pickN 9 [3, 0, 1, 4, 5, 2, 6, 7, 8]) (qStart_ok hsh hfu) (OkC.new hf0 hf1 ⟨harg.1, harg.2⟩) rfl rfl (Int.le_refl 1) (fun w hS => own_reads hus hS)) fun v13 w a hp14 ha => ?_)
 obtain ⟨q, tr, se, df, hq, rfl, hS⟩ := hp14
 refine jQ [(6, 22, (mG o fuel q.1.spent q.1.shared q.1.made q.1.deep tr se)), (7, 23, (cG q.2.f q.2.depth q.2.r0 q.2.r1 q.2.r2 q.2.r3 df q.2.kind q.2.value q.2.leaving q.2.deferred q.2.panicking q.2.panic q.2.recovered q.2.outer))] ha fun a ha => ?_
 refine jZ (o_sa 7 ha (qU (t := 121) (x := 8) (y := 22)) hS fun w a hS ha => ?_)
 refine jZ (o_sa 6 ha (qU (t := 124) (x := 9) (y := 23)) hS fun w a hS ha => ?_)
 refine jY (jJ (wp_ret (yH ha (by kernel_rfl) (xZ (t := 8) (ty := 121) (i := 7) ha rfl hS rfl (by kernel_rfl)) (xZ (t := 9) (ty := 124) (i := 6) ha rfl hS rfl (by kernel_rfl)) ?_)))
 replace hS := hS.pickN 9 [0, 1]
 exact ⟨q, o, tr, se, df, hq, rfl, hS⟩
theorem code42 : Try.f42.body = some (Code.seq (cr Try.f42 0 false) (Code.seq (cr Try.f42 1 false) (Code.seq (cr Try.f42 2 false) Code.ret))) := by kernel_rfl
theorem q_run {w0 w : World} {Rs : List Asn} {P : List (List Stp)} (hP : ProgOk P) {pv : Sl} {sbs : List Sl} {f arg fuel : Int} (hS : Sat w0 w Rs) (hf0 : 0 ≤ f) (hf1 : f < P.length) (harg : -32768 ≤ arg ∧ arg ≤ 32767) (hfu : 0 ≤ fuel ∧ fuel ≤ 200) (hPr : Keeps w0 Rs (fun w => RdProg w pv sbs P)) :
  Calls Try.prog 42 #[.agg #[.slice pv.A pv.n pv.c], .int .i64 f, .int .i64 arg, .int .i64 fuel] w (Ret fun r w' => ∃ tr : Sl, r = oG (runS P 0 f arg fuel).k (runS P 0 f arg fuel).v tr (runS P 0 f arg fuel).m.made ∧ Sat w0 w' (rE tr (runS P 0 f arg fuel).m.trace :: Rs)) := by
 refine enter (n := 22) Try.func42 code42 (by kernel_rfl) (Nat.le_of_ble_eq_true rfl) (fun a ha => ?_)
 replace ha : Has 22 [(0, .agg #[.slice pv.A pv.n pv.c]), (1, iv f), (2, iv arg), (3, iv fuel)] a := ha
 refine wp_seq (jX [0, 1] (jZ (qJ 4 [.slice pv.A pv.n pv.c] 40 (ptr · 0) ha hS fun b1 w a hb2 hS ha => ?_)))
 refine jZ (qJ 8 [iv 0, iv 0, .slice none 0 0, iv 0] 81 (ptr · 0) ha hS fun b3 w a hb4 hS ha => ?_)
 refine jY (jJ (wp_seq (jX [0, 1, 2, 3, 4, 5, 6, 7, 8, 9, 10, 11] (xG 12 ha (hS.blk 1 rfl) fun a ha => ?_))))
 refine jQ [(1, 13, iv f), (2, 14, iv arg), (3, 15, iv fuel)] ha fun a ha => ?_
 refine jZ (qG 16 (vs := [.agg #[.slice pv.A pv.n pv.c], iv f, iv arg, iv fuel]) ha (q_whole hP hS hf0 hf1 harg hfu (hPr.more [_, _])) fun v5 w a hp6 ha => ?_)
 obtain ⟨q, o, tr, se, df, hq, rfl, hS⟩ := hp6
 refine jQ [(5, 11, .tuple #[(mG o fuel q.1.spent q.1.shared q.1.made q.1.deep tr se), (cG q.2.f q.2.depth q.2.r0 q.2.r1 q.2.r2 q.2.r3 df q.2.kind q.2.value q.2.leaving q.2.deferred q.2.panicking q.2.panic q.2.recovered q.2.outer)]), (6, 17, (mG o fuel q.1.spent q.1.shared q.1.made q.1.deep tr se)), (7, 18, (cG q.2.f q.2.depth q.2.r0 q.2.r1 q.2.r2 q.2.r3 df q.2.kind q.2.value q.2.leaving q.2.deferred q.2.panicking q.2.panic q.2.recovered q.2.outer))] ha fun a ha => ?_
 refine jZ (qJ 9 (mL (⟨none, 0, 0⟩) 0 false 0 0 0 (⟨none, 0, 0⟩) (⟨none, 0, 0⟩)) 121 (ptr · 0) ha hS fun b7 w a hb8 hS ha => ?_)
 refine jZ (qJ 10 (cL 0 0 0 0 0 0 (⟨none, 0, 0⟩) 0 0 false false false 0 false 0) 124 (ptr · 0) ha hS fun b9 w a hb10 hS ha => ?_)
 refine jZ (o_sa 1 ha (qU (t := 121) (x := 9) (y := 17)) hS fun w a hS ha => ?_)
 refine jZ (o_sa 0 ha (qU (t := 124) (x := 10) (y := 18)) hS fun w a hS ha => ?_)
 refine jY (jJ (wp_seq (jX [0, 1, 2, 3] (xG 19 ha (hS.blk 1 rfl) fun a ha => ?_))))
 refine xG 20 ha (hS.blk 0 rfl) fun a ha => ?_
 refine jZ (qG 21 (vs := [(mG o fuel q.1.spent q.1.shared q.1.made q.1.deep tr se), (cG q.2.f q.2.depth q.2.r0 q.2.r1 q.2.r2 q.2.r3 df q.2.kind q.2.value q.2.leaving q.2.deferred q.2.panicking q.2.panic q.2.recovered q.2.outer)]) ha (q_told q.1 q.2 hS) fun v11 w a hp12 ha => ?_)
 obtain ⟨rfl, hS⟩ := hp12
 refine jZ (o_sa 4 ha (qU (t := 81) (x := 8) (y := 21)) hS fun w a hS ha => ?_)
 refine jY (jJ (wp_ret (qK ha (by kernel_rfl) (xZ (t := 8) (ty := 81) (i := 4) ha rfl hS rfl (by kernel_rfl)) ?_)))
 replace hS := hS.pickN 6 [2]
 have hE := run_eq hP (shared := 0) (arg := arg) hf0 hf1 hfu
 rw [← hq] at hE
 rw [hE.kind, hE.val, hE.made]
 rw [hE.trace] at hS
 exact ⟨tr, rfl, hS⟩
end SX
end Go.Proofs.Ytcbijhgepdedpaa
namespace Go.Proofs.Ytcbijhgepdedpaa.G
open Go.RowKit Go.Proofs.Ytcbijhgepdedpaa.SX Go.Proofs.YtcbijhgepdedpaaW.PrintWords Go.Proofs.YtcbijhgepdedpaaW.PrintLast Go.Proofs.YtcbijhgepdedpaaW.PrintMore
theorem apart_if2 (p : Prop) [Decidable p] (b : Bool) : (if p then some b else some false) = some (decide p && b) := by by_cases h : p <;> simp [h]
theorem q_in {w0 w : World} {Rs : List Asn} (hS : Sat w0 w Rs) (x lo hi : Int) : Calls Try.prog 46 #[.int .i64 x, .int .i64 lo, .int .i64 hi] w (Ret fun r w' => r = .bool (decide (lo ≤ x) && decide (x ≤ hi)) ∧ Sat w0 w' Rs) := by
 refine (spec_l1In.calls x lo hi (decide (lo ≤ x) && decide (x ≤ hi)) w (by unfold spec_l1In.f; by_cases h : lo ≤ x <;> simp [h])).mono ?_
 rintro e w' ⟨rfl, hd⟩
 obtain ⟨q, rfl⟩ := hd.out
 exact ⟨rfl, hS.grows ⟨rfl, rfl, rfl, Nat.le_refl _, fun _ _ => rfl⟩⟩
theorem q_reg {w0 w : World} {Rs : List Asn} (hS : Sat w0 w Rs) (x : Int) : Calls Try.prog 84 #[.int .i64 x] w (Ret fun r w' => r = .bool (regB x) ∧ Sat w0 w' Rs) := by
 refine (spec_l2Reg.calls x (regB x) w (by unfold spec_l2Reg.f spec_l1In.f; simp [regB, apart_if2])).mono ?_
 rintro e w' ⟨rfl, hd⟩
 obtain ⟨q, rfl⟩ := hd.out
 exact ⟨rfl, hS.grows ⟨rfl, rfl, rfl, Nat.le_refl _, fun _ _ => rfl⟩⟩
theorem q_num {w0 w : World} {Rs : List Asn} (hS : Sat w0 w Rs) (x : Int) : Calls Try.prog 60 #[.int .i64 x] w (Ret fun r w' => r = .bool (numB x) ∧ Sat w0 w' Rs) := by
 refine (spec_l2Number.calls x (numB x) w (by unfold spec_l2Number.f spec_l1In.f; simp [numB, apart_if2])).mono ?_
 rintro e w' ⟨rfl, hd⟩
 obtain ⟨q, rfl⟩ := hd.out
 exact ⟨rfl, hS.grows ⟨rfl, rfl, rfl, Nat.le_refl _, fun _ _ => rfl⟩⟩
theorem code59 : Try.f59.body = some (Code.seq (cr Try.f59 0 false) (Code.seq (cr Try.f59 1 false) Code.ret)) := by kernel_rfl
theorem q_fun {w0 w : World} {Rs : List Asn} {pv : Sl} (hS : Sat w0 w Rs) (x : Int) (hn : pv.n ≤ 2000000) : Calls Try.prog 59 #[.agg #[.slice pv.A pv.n pv.c], .int .i64 x] w (Ret fun r w' => r = .bool (decide ((0 : Int) ≤ x) && decide (x ≤ (pv.n : Int) - 1)) ∧ Sat w0 w' Rs) := by
 refine enter (n := 11) Try.func59 code59 (by kernel_rfl) (Nat.le_of_ble_eq_true rfl) (fun a ha => ?_)
 replace ha : Has 11 [(0, .agg #[.slice pv.A pv.n pv.c]), (1, iv x)] a := ha
 refine wp_seq (jX [0, 1] (jZ (qJ 2 [.slice pv.A pv.n pv.c] 40 (ptr · 0) ha hS fun b1 w a hb2 hS ha => ?_)))
 refine jQ [(1, 4, .bool false)] ha fun a ha => ?_
 refine jY (jJ (wp_seq (jX [0, 1, 2, 3, 4, 5, 6] (jQ [(0, 5, iv x), (1, 6, ptr b1 0)] ha fun a ha => ?_))))
 refine jU (d := 7) (b := b1) (j := 0) ha (hS.blk 0 rfl) rfl fun a ha => ?_
 refine jQ [(3, 8, iv (pv.n : Int))] ha fun a ha => ?_
 refine zJ 9 ((pv.n : Int) - 1) ha fun a ha => ?_
 refine jZ (qG 10 (vs := [iv x, iv 0, iv ((pv.n : Int) - 1)]) ha (q_in hS _ _ _) fun v3 w a hp4 ha => ?_)
 obtain ⟨rfl, hS⟩ := hp4
 refine jQ [(6, 4, .bool (decide ((0 : Int) ≤ x) && decide (x ≤ ((pv.n : Int) - 1))))] ha fun a ha => ?_
 refine jY (jJ (wp_ret (qK ha (by kernel_rfl) (yJ (t := 4) ha rfl) ?_)))
 exact ⟨rfl, Sat.rest [_] hS⟩
def okB (n : Nat) (b : List Stp) : Bool := decide (b.length ≤ 8) && b.all fun s => stepB (n : Int) s.k s.a s.b
def progQ (P : List (List Stp)) : Bool := (decide ((1 : Int) ≤ (P.length : Int)) && decide ((P.length : Int) ≤ 6)) && P.all (okB P.length)
theorem progQ_len {P : List (List Stp)} (h : (decide ((1 : Int) ≤ (P.length : Int)) && decide ((P.length : Int) ≤ 6)) = false) : progQ P = false := by unfold progQ; rw [h]; rfl
theorem progQ_no {P : List (List Stp)} {b : List Stp} (hb : b ∈ P) (h : okB P.length b = false) : progQ P = false := by
 refine Bool.eq_false_iff.2 fun h2 => ?_
 have h3 := List.all_eq_true.1 (Bool.and_eq_true_iff.1 h2).2 b hb
 rw [h] at h3
 cases h3
theorem progQ_yes {P : List (List Stp)} (h : (decide ((1 : Int) ≤ (P.length : Int)) && decide ((P.length : Int) ≤ 6)) = true) (h2 : ∀ b ∈ P, okB P.length b = true) : progQ P = true := by unfold progQ; rw [h, Bool.true_and]; exact List.all_eq_true.2 h2
theorem okB_len {n : Nat} {b : List Stp} (h : 8 < b.length) : okB n b = false := by unfold okB; rw [decide_eq_false (by omega)]; rfl
theorem okB_step {n : Nat} {b : List Stp} {z : Stp} (hz : z ∈ b) (h : stepB (n : Int) z.k z.a z.b = false) : okB n b = false := by
 refine Bool.eq_false_iff.2 fun h2 => ?_
 have h3 := List.all_eq_true.1 (Bool.and_eq_true_iff.1 h2).2 z hz
 rw [h] at h3
 cases h3
theorem okB_yes {n : Nat} {b : List Stp} (h : b.length ≤ 8) (h2 : ∀ s ∈ b, stepB (n : Int) s.k s.a s.b = true) : okB n b = true := by unfold okB; rw [decide_eq_true h, Bool.true_and]; exact List.all_eq_true.2 h2
theorem take_all {α : Type} {l : List α} {i : Nat} {x : α} {p : α → Prop} (h : ∀ y ∈ l.take i, p y) (hx : l[i]? = some x) (hp : p x) : ∀ y ∈ l.take (i + 1), p y := by
 intro y hy
 rw [List.take_add_one, hx] at hy
 rcases List.mem_append.1 hy with hy | hy
 · exact h y hy
 · rw [List.mem_singleton.1 hy]; exact hp
theorem progQ_PL (l : List (List GS)) : progQ (PL l) = programB l := by
  unfold progQ programB
  rw [PL_length]
  congr 1
  · congr 1 <;> exact decide_eq_decide.2 (by omega)
  · unfold PL
    rw [List.all_map];refine congrArg (List.all l) (funext fun b => ?_);simp only [Function.comp, okB, bodyB, List.length_map, List.all_map]
    rfl
theorem code72 : Try.f72.body = some (Code.seq (cr Try.f72 0 false) (Code.seq (Code.seq (cr Try.f72 1 false) (Code.block 0 (Code.seq (cr Try.f72 2 false) (Code.cond (Operand.tmp 7) (Code.seq (cr Try.f72 3 false) Code.ret) (Code.seq (cr Try.f72 4 false) (Code.cond (Operand.tmp 17) (Code.seq (cr Try.f72 5 false) Code.ret) (Code.seq (Code.seq (cr Try.f72 6 false) (Code.cond (Operand.tmp 27) Code.skip (cr Try.f72 7 false))) (Code.cond (Operand.tmp 27) (Code.seq (cr Try.f72 8 false) Code.ret) (Code.seq (Code.seq (cr Try.f72 9 false) (Code.cond (Operand.tmp 39) Code.skip (Code.seq (cr Try.f72 10 false) (Code.cond (Operand.tmp 39) Code.skip (Code.seq (cr Try.f72 11 false) (Code.cond (Operand.tmp 39) Code.skip (Code.seq (cr Try.f72 12 false) (Code.cond (Operand.tmp 39) Code.skip (Code.seq (cr Try.f72 13 false) (Code.cond (Operand.tmp 39) Code.skip (Code.seq (cr Try.f72 14 false) (Code.cond (Operand.tmp 39) Code.skip (cr Try.f72 15 false))))))))))))) (Code.cond (Operand.tmp 39) (Code.seq (cr Try.f72 16 false) Code.ret) (Code.seq (cr Try.f72 17 false) (Code.cond (Operand.tmp 55) (Code.seq (cr Try.f72 18 false) Code.ret) (Code.seq (cr Try.f72 19 false) (Code.cond (Operand.tmp 65) (Code.seq (cr Try.f72 20 false) Code.ret) Code.skip)))))))))))))) (Code.seq (cr Try.f72 21 false) Code.ret))) := by kernel_rfl
theorem q_step {w0 w : World} {Rs : List Asn} {pv : Sl} {k xa xb : Int} (hS : Sat w0 w Rs) (hn : pv.n ≤ 2000000) :
  Calls Try.prog 72 #[.agg #[.slice pv.A pv.n pv.c], .agg #[.int .i64 k, .int .i64 xa, .int .i64 xb]] w (Ret fun r w' => r = .bool (stepB (pv.n : Int) k xa xb) ∧ Sat w0 w' Rs) := by
 refine enter (n := 75) Try.func72 code72 (by kernel_rfl) (Nat.le_of_ble_eq_true rfl) (fun a ha => ?_)
 replace ha : Has 75 [(0, .agg #[.slice pv.A pv.n pv.c]), (1, .agg #[iv k, iv xa, iv xb])] a := ha
 refine wp_seq (jX [0, 1, 2] (jZ (qJ 2 [.slice pv.A pv.n pv.c] 40 (ptr · 0) ha hS fun b1 w a hb2 hS ha => ?_)))
 refine jZ (qJ 3 [iv k, iv xa, iv xb] 98 (ptr · 0) ha hS fun b3 w a hb4 hS ha => ?_)
 refine jQ [(2, 4, .bool false)] ha fun a ha => ?_
 refine jY (jJ (wp_seq (wp_seq (jX [0, 1] (jQ [(0, 5, ptr b3 0)] ha fun a ha => ?_)))))
 refine jU (d := 6) (b := b3) (j := 0) ha (hS.blk 0 rfl) rfl fun a ha => ?_
 refine jY (jJ (wp_block (wp_seq (jX [0, 1] (jQ [(0, 8, .bool (decide (k = 1))), (1, 7, .bool (decide (k = 1)))] ha fun a ha => ?_)))))
 refine jY (jJ ?_)
 by_cases c5 : k = 1
 ·
  refine jG ha rfl (decide_eq_true c5) ?_
  refine wp_seq (jX [0, 1, 2, 3, 4, 5, 6, 7, 8] (jQ [(0, 9, ptr b3 1)] ha fun a ha => ?_))
  refine jU (d := 10) (b := b3) (j := 1) ha (hS.blk 0 rfl) rfl fun a ha => ?_
  refine jZ (qG 11 (vs := [iv xa]) ha (q_reg hS _) fun v6 w a hp7 ha => ?_)
  obtain ⟨rfl, hS⟩ := hp7
  refine jQ [(3, 12, .bool (regB xa))] ha fun a ha => ?_
  rcases Bool.eq_false_or_eq_true (regB xa) with c8 | c8
  ·
   replace ha := ha.turn 11 (.bool true) rfl (congrArg Value.bool c8);replace ha := ha.turn 12 (.bool true) rfl (congrArg Value.bool c8);refine jQ [(4, 13, ptr b3 2)] ha fun a ha => ?_;refine jU (d := 14) (b := b3) (j := 2) ha (hS.blk 0 rfl) rfl fun a ha => ?_;refine jZ (qG 15 (vs := [iv xb]) ha (q_num hS _) fun v9 w a hp10 ha => ?_);obtain ⟨rfl, hS⟩ := hp10;refine jQ [(7, 16, .bool (numB xb)), (8, 4, .bool (numB xb))] ha fun a ha => ?_;refine jY ?_;replace ha := ha.as [(4, .bool (numB xb))] rfl;refine jJ (wp_ret (in_r (xQ (qK ha (by kernel_rfl) (yJ (t := 4) ha rfl) ?_))));have hE : stepB (pv.n : Int) k xa xb = (numB xb) := by first | (simp [stepB, c5, c8]; done) | (simp only [stepB, show (decide (1 ≤ k) && decide (k ≤ 13)) = false by (simp; omega), Bool.false_and])
   rw [hE];exact ⟨rfl, Sat.rest [_, _] hS⟩
  replace ha := ha.turn 11 (.bool false) rfl (congrArg Value.bool c8)
  replace ha := ha.turn 12 (.bool false) rfl (congrArg Value.bool c8)
  refine jQ [(4, 13, undef), (5, 14, undef), (6, 15, undef), (7, 16, .bool false), (8, 4, .bool false)] ha fun a ha => ?_
  refine jY ?_
  replace ha := ha.as [(4, .bool false)] rfl
  refine jJ (wp_ret (in_r (xQ (qK ha (by kernel_rfl) (yJ (t := 4) ha rfl) ?_))))
  have hE : stepB (pv.n : Int) k xa xb = false := by first | (simp [stepB, c5, c8]; done) | (simp only [stepB, show (decide (1 ≤ k) && decide (k ≤ 13)) = false by (simp; omega), Bool.false_and])
  rw [hE]
  exact ⟨rfl, Sat.rest [_, _] hS⟩
 refine jV ha rfl (decide_eq_false c5) ?_
 refine wp_seq (jX [0, 1] (jQ [(0, 18, .bool (decide (k = 2))), (1, 17, .bool (decide (k = 2)))] ha fun a ha => ?_))
 refine jY (jJ ?_)
 by_cases c11 : k = 2
 ·
  refine jG ha rfl (decide_eq_true c11) ?_
  refine wp_seq (jX [0, 1, 2, 3, 4, 5, 6, 7, 8] (jQ [(0, 19, ptr b3 1)] ha fun a ha => ?_))
  refine jU (d := 20) (b := b3) (j := 1) ha (hS.blk 0 rfl) rfl fun a ha => ?_
  refine jZ (qG 21 (vs := [iv xa]) ha (q_reg hS _) fun v12 w a hp13 ha => ?_)
  obtain ⟨rfl, hS⟩ := hp13
  refine jQ [(3, 22, .bool (regB xa))] ha fun a ha => ?_
  rcases Bool.eq_false_or_eq_true (regB xa) with c14 | c14
  ·
   replace ha := ha.turn 21 (.bool true) rfl (congrArg Value.bool c14);replace ha := ha.turn 22 (.bool true) rfl (congrArg Value.bool c14);refine jQ [(4, 23, ptr b3 2)] ha fun a ha => ?_;refine jU (d := 24) (b := b3) (j := 2) ha (hS.blk 0 rfl) rfl fun a ha => ?_;refine jZ (qG 25 (vs := [iv xb]) ha (q_reg hS _) fun v15 w a hp16 ha => ?_);obtain ⟨rfl, hS⟩ := hp16;refine jQ [(7, 26, .bool (regB xb)), (8, 4, .bool (regB xb))] ha fun a ha => ?_;refine jY ?_;replace ha := ha.as [(4, .bool (regB xb))] rfl;refine jJ (wp_ret (in_r (xQ (qK ha (by kernel_rfl) (yJ (t := 4) ha rfl) ?_))));have hE : stepB (pv.n : Int) k xa xb = (regB xb) := by first | (simp [stepB, c5, c11, c14]; done) | (simp only [stepB, show (decide (1 ≤ k) && decide (k ≤ 13)) = false by (simp; omega), Bool.false_and])
   rw [hE];exact ⟨rfl, Sat.rest [_, _] hS⟩
  replace ha := ha.turn 21 (.bool false) rfl (congrArg Value.bool c14)
  replace ha := ha.turn 22 (.bool false) rfl (congrArg Value.bool c14)
  refine jQ [(4, 23, undef), (5, 24, undef), (6, 25, undef), (7, 26, .bool false), (8, 4, .bool false)] ha fun a ha => ?_
  refine jY ?_
  replace ha := ha.as [(4, .bool false)] rfl
  refine jJ (wp_ret (in_r (xQ (qK ha (by kernel_rfl) (yJ (t := 4) ha rfl) ?_))))
  have hE : stepB (pv.n : Int) k xa xb = false := by first | (simp [stepB, c5, c11, c14]; done) | (simp only [stepB, show (decide (1 ≤ k) && decide (k ≤ 13)) = false by (simp; omega), Bool.false_and])
  rw [hE]
  exact ⟨rfl, Sat.rest [_, _] hS⟩
 refine jV ha rfl (decide_eq_false c11) ?_
 refine wp_seq (wp_seq (jX [0, 1] (jQ [(0, 28, .bool (decide (k = 4))), (1, 27, .bool (decide (k = 4)))] ha fun a ha => ?_)))
 refine jY (jJ (kZ (J := fun a_ w_ => Has 75 [(2, ptr b1 0), (3, ptr b3 0), (4, .bool false), (6, iv k), (27, .bool (decide (k = 4 ∨ k = 5)))] a_ ∧ Sat w0 w_ ((SX.blk b3 [iv k, iv xa, iv xb] 98) :: (SX.blk b1 [.slice pv.A pv.n pv.c] 40) :: Rs)) ?_ ?_))
 ·
  by_cases c17 : k = 4
  ·
   refine jG ha rfl (decide_eq_true c17) ?_;refine wp_skip ?_;have e18 : (decide (k = 4 ∨ k = 5)) = (decide (k = 4)) := by simp [c5, c11, c17]
   refine jJ ⟨?_, ?_⟩
   · first | (rw [e18]; exact ha.keeps [2, 3, 4, 6, 27] _ rfl) | exact ha.keeps [2, 3, 4, 6, 27] _ rfl
   · first | (rw [e18]; exact hS) | exact hS
  refine jV ha rfl (decide_eq_false c17) ?_
  refine jX [0, 1] (jQ [(0, 29, .bool (decide (k = 5))), (1, 27, .bool (decide (k = 5)))] ha fun a ha => ?_)
  refine jY ?_
  have e19 : (decide (k = 4 ∨ k = 5)) = (decide (k = 5)) := by simp [c5, c11, c17]
  refine jJ ⟨?_, ?_⟩
  · first | (rw [e19]; exact ha.keeps [2, 3, 4, 6, 27] _ rfl) | exact ha.keeps [2, 3, 4, 6, 27] _ rfl
  · first | (rw [e19]; exact hS) | exact hS
 rintro a w ⟨ha, hS⟩
 by_cases c20 : k = 4 ∨ k = 5
 ·
  refine jG ha rfl (decide_eq_true c20) ?_
  refine wp_seq (jX [0, 1, 2, 3, 4, 5, 6, 7, 8, 9] (xG 30 ha (hS.blk 1 rfl) fun a ha => ?_))
  refine jQ [(1, 31, ptr b3 1)] ha fun a ha => ?_
  refine jU (d := 32) (b := b3) (j := 1) ha (hS.blk 0 rfl) rfl fun a ha => ?_
  refine jZ (qG 33 (vs := [.agg #[.slice pv.A pv.n pv.c], iv xa]) ha (q_fun hS _ (by omega)) fun v21 w a hp22 ha => ?_)
  obtain ⟨rfl, hS⟩ := hp22
  refine jQ [(4, 34, .bool (decide ((0 : Int) ≤ xa) && decide (xa ≤ (pv.n : Int) - 1)))] ha fun a ha => ?_
  rcases Bool.eq_false_or_eq_true (decide ((0 : Int) ≤ xa) && decide (xa ≤ (pv.n : Int) - 1)) with c23 | c23
  ·
   replace ha := ha.turn 33 (.bool true) rfl (congrArg Value.bool c23);replace ha := ha.turn 34 (.bool true) rfl (congrArg Value.bool c23);refine jQ [(5, 35, ptr b3 2)] ha fun a ha => ?_;refine jU (d := 36) (b := b3) (j := 2) ha (hS.blk 0 rfl) rfl fun a ha => ?_;refine jZ (qG 37 (vs := [iv xb]) ha (q_reg hS _) fun v24 w a hp25 ha => ?_);obtain ⟨rfl, hS⟩ := hp25;refine jQ [(8, 38, .bool (regB xb)), (9, 4, .bool (regB xb))] ha fun a ha => ?_;refine jY ?_;replace ha := ha.as [(4, .bool (regB xb))] rfl;refine jJ (wp_ret (in_r (xQ (qK ha (by kernel_rfl) (yJ (t := 4) ha rfl) ?_))));have hE : stepB (pv.n : Int) k xa xb = (regB xb) := by rcases c20 with h | h <;> simp [stepB, h, c23]
   rw [hE];exact ⟨rfl, Sat.rest [_, _] hS⟩
  replace ha := ha.turn 33 (.bool false) rfl (congrArg Value.bool c23)
  replace ha := ha.turn 34 (.bool false) rfl (congrArg Value.bool c23)
  refine jQ [(5, 35, undef), (6, 36, undef), (7, 37, undef), (8, 38, .bool false), (9, 4, .bool false)] ha fun a ha => ?_
  refine jY ?_
  replace ha := ha.as [(4, .bool false)] rfl
  refine jJ (wp_ret (in_r (xQ (qK ha (by kernel_rfl) (yJ (t := 4) ha rfl) ?_))))
  have hE : stepB (pv.n : Int) k xa xb = false := by rcases c20 with h | h <;> simp [stepB, h, c23]
  rw [hE]
  exact ⟨rfl, Sat.rest [_, _] hS⟩
 refine jV ha rfl (decide_eq_false c20) ?_
 refine wp_seq (wp_seq (jX [0, 1] (jQ [(0, 40, .bool (decide (k = 3))), (1, 39, .bool (decide (k = 3)))] ha fun a ha => ?_)))
 refine jY (jJ (kZ (J := fun a_ w_ => Has 75 [(3, ptr b3 0), (4, .bool false), (6, iv k), (39, .bool (decide (k = 3 ∨ k = 6 ∨ k = 7 ∨ k = 8 ∨ k = 9 ∨ k = 12 ∨ k = 13)))] a_ ∧ Sat w0 w_ ((SX.blk b3 [iv k, iv xa, iv xb] 98) :: (SX.blk b1 [.slice pv.A pv.n pv.c] 40) :: Rs)) ?_ ?_))
 ·
  by_cases c26 : k = 3
  ·
   refine jG ha rfl (decide_eq_true c26) ?_;refine wp_skip ?_;have e27 : (decide (k = 3 ∨ k = 6 ∨ k = 7 ∨ k = 8 ∨ k = 9 ∨ k = 12 ∨ k = 13)) = (decide (k = 3)) := by simp [c5, c11, c20, c26]
   refine jJ ⟨?_, ?_⟩
   · first | (rw [e27]; exact ha.keeps [3, 4, 6, 39] _ rfl) | exact ha.keeps [3, 4, 6, 39] _ rfl
   · first | (rw [e27]; exact hS) | exact hS
  refine jV ha rfl (decide_eq_false c26) ?_
  refine wp_seq (jX [0, 1] (jQ [(0, 41, .bool (decide (k = 6))), (1, 39, .bool (decide (k = 6)))] ha fun a ha => ?_))
  refine jY (jJ ?_)
  by_cases c28 : k = 6
  ·
   refine jG ha rfl (decide_eq_true c28) ?_;refine wp_skip ?_;have e29 : (decide (k = 3 ∨ k = 6 ∨ k = 7 ∨ k = 8 ∨ k = 9 ∨ k = 12 ∨ k = 13)) = (decide (k = 6)) := by simp [c5, c11, c20, c26, c28]
   refine jJ ⟨?_, ?_⟩
   · first | (rw [e29]; exact ha.keeps [3, 4, 6, 39] _ rfl) | exact ha.keeps [3, 4, 6, 39] _ rfl
   · first | (rw [e29]; exact hS) | exact hS
  refine jV ha rfl (decide_eq_false c28) ?_
  refine wp_seq (jX [0, 1] (jQ [(0, 42, .bool (decide (k = 7))), (1, 39, .bool (decide (k = 7)))] ha fun a ha => ?_))
  refine jY (jJ ?_)
  by_cases c30 : k = 7
  ·
   refine jG ha rfl (decide_eq_true c30) ?_;refine wp_skip ?_;have e31 : (decide (k = 3 ∨ k = 6 ∨ k = 7 ∨ k = 8 ∨ k = 9 ∨ k = 12 ∨ k = 13)) = (decide (k = 7)) := by simp [c5, c11, c20, c26, c28, c30]
   refine jJ ⟨?_, ?_⟩
   · first | (rw [e31]; exact ha.keeps [3, 4, 6, 39] _ rfl) | exact ha.keeps [3, 4, 6, 39] _ rfl
   · first | (rw [e31]; exact hS) | exact hS
  refine jV ha rfl (decide_eq_false c30) ?_
  refine wp_seq (jX [0, 1] (jQ [(0, 43, .bool (decide (k = 8))), (1, 39, .bool (decide (k = 8)))] ha fun a ha => ?_))
  refine jY ?_
  replace ha := ha.as [(3, ptr b3 0), (4, .bool false), (6, iv k), (39, .bool (decide (k = 8)))] rfl
  refine jJ ?_
  by_cases c32 : k = 8
  ·
   refine jG ha rfl (decide_eq_true c32) ?_;refine wp_skip ?_;have e33 : (decide (k = 3 ∨ k = 6 ∨ k = 7 ∨ k = 8 ∨ k = 9 ∨ k = 12 ∨ k = 13)) = (decide (k = 8)) := by simp [c5, c11, c20, c26, c28, c30, c32]
   refine jJ ⟨?_, ?_⟩
   · first | (rw [e33]; exact ha.keeps [3, 4, 6, 39] _ rfl) | exact ha.keeps [3, 4, 6, 39] _ rfl
   · first | (rw [e33]; exact hS) | exact hS
  refine jV ha rfl (decide_eq_false c32) ?_
  refine wp_seq (jX [0, 1] (jQ [(0, 44, .bool (decide (k = 9))), (1, 39, .bool (decide (k = 9)))] ha fun a ha => ?_))
  refine jY (jJ ?_)
  by_cases c34 : k = 9
  ·
   refine jG ha rfl (decide_eq_true c34) ?_;refine wp_skip ?_;have e35 : (decide (k = 3 ∨ k = 6 ∨ k = 7 ∨ k = 8 ∨ k = 9 ∨ k = 12 ∨ k = 13)) = (decide (k = 9)) := by simp [c5, c11, c20, c26, c28, c30, c32, c34]
   refine jJ ⟨?_, ?_⟩
   · first | (rw [e35]; exact ha.keeps [3, 4, 6, 39] _ rfl) | exact ha.keeps [3, 4, 6, 39] _ rfl
   · first | (rw [e35]; exact hS) | exact hS
  refine jV ha rfl (decide_eq_false c34) ?_
  refine wp_seq (jX [0, 1] (jQ [(0, 45, .bool (decide (k = 12))), (1, 39, .bool (decide (k = 12)))] ha fun a ha => ?_))
  refine jY (jJ ?_)
  by_cases c36 : k = 12
  ·
   refine jG ha rfl (decide_eq_true c36) ?_;refine wp_skip ?_;have e37 : (decide (k = 3 ∨ k = 6 ∨ k = 7 ∨ k = 8 ∨ k = 9 ∨ k = 12 ∨ k = 13)) = (decide (k = 12)) := by simp [c5, c11, c20, c26, c28, c30, c32, c34, c36]
   refine jJ ⟨?_, ?_⟩
   · first | (rw [e37]; exact ha.keeps [3, 4, 6, 39] _ rfl) | exact ha.keeps [3, 4, 6, 39] _ rfl
   · first | (rw [e37]; exact hS) | exact hS
  refine jV ha rfl (decide_eq_false c36) ?_
  refine jX [0, 1] (jQ [(0, 46, .bool (decide (k = 13))), (1, 39, .bool (decide (k = 13)))] ha fun a ha => ?_)
  refine jY ?_
  have e38 : (decide (k = 3 ∨ k = 6 ∨ k = 7 ∨ k = 8 ∨ k = 9 ∨ k = 12 ∨ k = 13)) = (decide (k = 13)) := by simp [c5, c11, c20, c26, c28, c30, c32, c34, c36]
  refine jJ ⟨?_, ?_⟩
  · first | (rw [e38]; exact ha.keeps [3, 4, 6, 39] _ rfl) | exact ha.keeps [3, 4, 6, 39] _ rfl
  · first | (rw [e38]; exact hS) | exact hS
 rintro a w ⟨ha, hS⟩
 by_cases c39 : k = 3 ∨ k = 6 ∨ k = 7 ∨ k = 8 ∨ k = 9 ∨ k = 12 ∨ k = 13
 ·
  refine jG ha rfl (decide_eq_true c39) ?_
  refine wp_seq (jX [0, 1, 2, 3, 4, 5, 6, 7, 8] (jQ [(0, 47, ptr b3 1)] ha fun a ha => ?_))
  refine jU (d := 48) (b := b3) (j := 1) ha (hS.blk 0 rfl) rfl fun a ha => ?_
  refine jZ (qG 49 (vs := [iv xa]) ha (q_reg hS _) fun v40 w a hp41 ha => ?_)
  obtain ⟨rfl, hS⟩ := hp41
  refine jQ [(3, 50, .bool (regB xa))] ha fun a ha => ?_
  rcases Bool.eq_false_or_eq_true (regB xa) with c42 | c42
  ·
   replace ha := ha.turn 49 (.bool true) rfl (congrArg Value.bool c42);replace ha := ha.turn 50 (.bool true) rfl (congrArg Value.bool c42);refine jQ [(4, 51, ptr b3 2)] ha fun a ha => ?_;refine jU (d := 52) (b := b3) (j := 2) ha (hS.blk 0 rfl) rfl fun a ha => ?_;refine jQ [(6, 53, .bool (decide (xb = 0))), (7, 54, .bool (decide (xb = 0))), (8, 4, .bool (decide (xb = 0)))] ha fun a ha => ?_;refine jY ?_;replace ha := ha.as [(4, .bool (decide (xb = 0)))] rfl;refine jJ (wp_ret (in_r (xQ (qK ha (by kernel_rfl) (yJ (t := 4) ha rfl) ?_))));have hE : stepB (pv.n : Int) k xa xb = decide (xb = 0) := by rcases c39 with h | h | h | h | h | h | h <;> simp [stepB, h, c42]
   rw [hE];exact ⟨rfl, Sat.rest [_, _] hS⟩
  replace ha := ha.turn 49 (.bool false) rfl (congrArg Value.bool c42)
  replace ha := ha.turn 50 (.bool false) rfl (congrArg Value.bool c42)
  refine jQ [(4, 51, undef), (5, 52, undef), (6, 53, undef), (7, 54, .bool false), (8, 4, .bool false)] ha fun a ha => ?_
  refine jY ?_
  replace ha := ha.as [(4, .bool false)] rfl
  refine jJ (wp_ret (in_r (xQ (qK ha (by kernel_rfl) (yJ (t := 4) ha rfl) ?_))))
  have hE : stepB (pv.n : Int) k xa xb = false := by rcases c39 with h | h | h | h | h | h | h <;> simp [stepB, h, c42]
  rw [hE]
  exact ⟨rfl, Sat.rest [_, _] hS⟩
 refine jV ha rfl (decide_eq_false c39) ?_
 refine wp_seq (jX [0, 1] (jQ [(0, 56, .bool (decide (k = 10))), (1, 55, .bool (decide (k = 10)))] ha fun a ha => ?_))
 refine jY (jJ ?_)
 by_cases c43 : k = 10
 ·
  refine jG ha rfl (decide_eq_true c43) ?_
  refine wp_seq (jX [0, 1, 2, 3, 4, 5, 6, 7, 8] (jQ [(0, 57, ptr b3 1)] ha fun a ha => ?_))
  refine jU (d := 58) (b := b3) (j := 1) ha (hS.blk 0 rfl) rfl fun a ha => ?_
  refine jQ [(2, 59, .bool (decide (xa = 0))), (3, 60, .bool (decide (xa = 0)))] ha fun a ha => ?_
  by_cases c44 : xa = 0
  ·
   replace ha := ha.turn 59 (.bool true) rfl (congrArg Value.bool (decide_eq_true c44));replace ha := ha.turn 60 (.bool true) rfl (congrArg Value.bool (decide_eq_true c44));refine jQ [(4, 61, ptr b3 2)] ha fun a ha => ?_;refine jU (d := 62) (b := b3) (j := 2) ha (hS.blk 0 rfl) rfl fun a ha => ?_;refine jQ [(6, 63, .bool (decide (xb = 0))), (7, 64, .bool (decide (xb = 0))), (8, 4, .bool (decide (xb = 0)))] ha fun a ha => ?_;refine jY ?_;replace ha := ha.as [(4, .bool (decide (xb = 0)))] rfl;refine jJ (wp_ret (in_r (xQ (qK ha (by kernel_rfl) (yJ (t := 4) ha rfl) ?_))));have hE : stepB (pv.n : Int) k xa xb = decide (xb = 0) := by first | (simp [stepB, c5, c11, c20, c39, c43, c44]; done) | (simp only [stepB, show (decide (1 ≤ k) && decide (k ≤ 13)) = false by (simp; omega), Bool.false_and])
   rw [hE];exact ⟨rfl, Sat.rest [_, _] hS⟩
  replace ha := ha.turn 59 (.bool false) rfl (congrArg Value.bool (decide_eq_false c44))
  replace ha := ha.turn 60 (.bool false) rfl (congrArg Value.bool (decide_eq_false c44))
  refine jQ [(4, 61, undef), (5, 62, undef), (6, 63, undef), (7, 64, .bool false), (8, 4, .bool false)] ha fun a ha => ?_
  refine jY ?_
  replace ha := ha.as [(4, .bool false)] rfl
  refine jJ (wp_ret (in_r (xQ (qK ha (by kernel_rfl) (yJ (t := 4) ha rfl) ?_))))
  have hE : stepB (pv.n : Int) k xa xb = false := by first | (simp [stepB, c5, c11, c20, c39, c43, c44]; done) | (simp only [stepB, show (decide (1 ≤ k) && decide (k ≤ 13)) = false by (simp; omega), Bool.false_and])
  rw [hE]
  exact ⟨rfl, Sat.rest [_, _] hS⟩
 refine jV ha rfl (decide_eq_false c43) ?_
 refine wp_seq (jX [0, 1] (jQ [(0, 66, .bool (decide (k = 11))), (1, 65, .bool (decide (k = 11)))] ha fun a ha => ?_))
 refine jY (jJ ?_)
 by_cases c45 : k = 11
 ·
  refine jG ha rfl (decide_eq_true c45) ?_
  refine wp_seq (jX [0, 1, 2, 3, 4, 5, 6, 7, 8] (jQ [(0, 67, ptr b3 1)] ha fun a ha => ?_))
  refine jU (d := 68) (b := b3) (j := 1) ha (hS.blk 0 rfl) rfl fun a ha => ?_
  refine jZ (qG 69 (vs := [iv xa, iv 0, iv 8]) ha (q_in hS _ _ _) fun v46 w a hp47 ha => ?_)
  obtain ⟨rfl, hS⟩ := hp47
  refine jQ [(3, 70, .bool (decide ((0 : Int) ≤ xa) && decide (xa ≤ 8)))] ha fun a ha => ?_
  rcases Bool.eq_false_or_eq_true (decide ((0 : Int) ≤ xa) && decide (xa ≤ 8)) with c48 | c48
  ·
   replace ha := ha.turn 69 (.bool true) rfl (congrArg Value.bool c48);replace ha := ha.turn 70 (.bool true) rfl (congrArg Value.bool c48);refine jQ [(4, 71, ptr b3 2)] ha fun a ha => ?_;refine jU (d := 72) (b := b3) (j := 2) ha (hS.blk 0 rfl) rfl fun a ha => ?_;refine jZ (qG 73 (vs := [iv xb]) ha (q_reg hS _) fun v49 w a hp50 ha => ?_);obtain ⟨rfl, hS⟩ := hp50;refine jQ [(7, 74, .bool (regB xb)), (8, 4, .bool (regB xb))] ha fun a ha => ?_;refine jY ?_;replace ha := ha.as [(4, .bool (regB xb))] rfl;refine jJ (wp_ret (in_r (xQ (qK ha (by kernel_rfl) (yJ (t := 4) ha rfl) ?_))));have hE : stepB (pv.n : Int) k xa xb = (regB xb) := by first | (simp [stepB, c5, c11, c20, c39, c43, c45, c48]; done) | (simp only [stepB, show (decide (1 ≤ k) && decide (k ≤ 13)) = false by (simp; omega), Bool.false_and])
   rw [hE];exact ⟨rfl, Sat.rest [_, _] hS⟩
  replace ha := ha.turn 69 (.bool false) rfl (congrArg Value.bool c48)
  replace ha := ha.turn 70 (.bool false) rfl (congrArg Value.bool c48)
  refine jQ [(4, 71, undef), (5, 72, undef), (6, 73, undef), (7, 74, .bool false), (8, 4, .bool false)] ha fun a ha => ?_
  refine jY ?_
  replace ha := ha.as [(4, .bool false)] rfl
  refine jJ (wp_ret (in_r (xQ (qK ha (by kernel_rfl) (yJ (t := 4) ha rfl) ?_))))
  have hE : stepB (pv.n : Int) k xa xb = false := by first | (simp [stepB, c5, c11, c20, c39, c43, c45, c48]; done) | (simp only [stepB, show (decide (1 ≤ k) && decide (k ≤ 13)) = false by (simp; omega), Bool.false_and])
  rw [hE]
  exact ⟨rfl, Sat.rest [_, _] hS⟩
 refine jV ha rfl (decide_eq_false c45) ?_
 refine wp_skip (in_n (jJ (wp_seq (jX [0] (jQ [(0, 4, .bool false)] ha fun a ha => ?_)))))
 refine jY ?_
 replace ha := ha.as [(4, .bool false)] rfl
 refine jJ (wp_ret (qK ha (by kernel_rfl) (yJ (t := 4) ha rfl) ?_))
 have hE : stepB (pv.n : Int) k xa xb = false := by first | (simp [stepB, c5, c11, c20, c39, c43, c45]; done) | (simp only [stepB, show (decide (1 ≤ k) && decide (k ≤ 13)) = false by (simp; omega), Bool.false_and])
 rw [hE]
 exact ⟨rfl, Sat.rest [_, _] hS⟩
theorem code58 : Try.f58.body = some (Code.seq (cr Try.f58 0 false) (Code.seq (Code.seq (cr Try.f58 1 false) (Code.cond (Operand.tmp 9) (Code.seq (cr Try.f58 2 false) Code.ret) Code.skip)) (Code.seq (Code.seq (cr Try.f58 3 false) (Code.block 0 (Code.loop (Code.seq (Code.seq (cr Try.f58 4 false) (Code.cond (Operand.tmp 14) Code.skip (Code.exit 0))) (Code.seq (Code.block 1 (Code.seq (Code.seq (cr Try.f58 6 false) (Code.cond (Operand.tmp 23) (Code.seq (cr Try.f58 7 false) Code.ret) Code.skip)) (Code.seq (cr Try.f58 8 false) (Code.block 2 (Code.loop (Code.seq (Code.seq (cr Try.f58 9 false) (Code.cond (Operand.tmp 31) Code.skip (Code.exit 2))) (Code.seq (Code.block 3 (Code.seq (cr Try.f58 11 true) (Code.cond (Operand.tmp 44) (Code.seq (cr Try.f58 12 false) Code.ret) Code.skip))) (cr Try.f58 10 false)))))))) (cr Try.f58 5 false)))))) (Code.seq (cr Try.f58 13 false) Code.ret)))) := by kernel_rfl
theorem q_prog {w0 w : World} {Rs : List Asn} {P : List (List Stp)} {pv : Sl} {sbs : List Sl} (hS : Sat w0 w Rs) (hl : P.length ≤ 2000000) (hPr : Keeps w0 Rs (fun w => RdProg w pv sbs P)) :
  Calls Try.prog 58 #[.agg #[.slice pv.A pv.n pv.c]] w (Ret fun r w' => r = .bool (progQ P) ∧ Sat w0 w' Rs) := by
 have hpn := (hPr w hS).len
 have hpA := (hPr w hS).A
 refine enter (n := 45) Try.func58 code58 (by kernel_rfl) (Nat.le_of_ble_eq_true rfl) (fun a ha => ?_)
 replace ha : Has 45 [(0, .agg #[.slice pv.A pv.n pv.c])] a := ha
 refine wp_seq (jX [0, 1] (jZ (qJ 1 [.slice pv.A pv.n pv.c] 40 (ptr · 0) ha hS fun b1 w a hb2 hS ha => ?_)))
 refine jQ [(1, 2, .bool false)] ha fun a ha => ?_
 refine jY (jJ (wp_seq (wp_seq (jX [0, 1, 2, 3, 4] (jQ [(0, 5, ptr b1 0)] ha fun a ha => ?_)))))
 refine jU (d := 6) (b := b1) (j := 0) ha (hS.blk 0 rfl) rfl fun a ha => ?_
 refine jQ [(2, 7, iv (pv.n : Int))] ha fun a ha => ?_
 refine jZ (qG 8 (vs := [iv (pv.n : Int), iv 1, iv 6]) ha (q_in hS _ _ _) fun v3 w a hp4 ha => ?_)
 obtain ⟨rfl, hS⟩ := hp4
 refine jQ [(4, 9, .bool (!((decide ((1 : Int) ≤ (pv.n : Int)) && decide ((pv.n : Int) ≤ 6)))))] ha fun a ha => ?_
 refine jY (jJ ?_)
 rcases Bool.eq_false_or_eq_true (decide ((1 : Int) ≤ (pv.n : Int)) && decide ((pv.n : Int) ≤ 6)) with c5 | c5
 ·
  refine jV ha rfl (zX c5) ?_
  refine wp_skip (jJ (wp_seq (wp_seq (jX [0] (jQ [(0, 3, iv 0)] ha fun a ha => ?_)))))
  refine jY (jJ (wp_block ?_))
  refine wp_loop_ghost (fun n_ a_ w_ => ∃ (i : Nat), n_ = P.length - i ∧ (i ≤ P.length) ∧ (∀ b ∈ P.take i, okB P.length b = true) ∧ Has 45 [(1, ptr b1 0), (2, .bool false), (3, iv (i : Int))] a_ ∧ Sat w0 w_ ((SX.blk b1 [.slice pv.A pv.n pv.c] 40) :: Rs)) _ ⟨0, rfl, Nat.zero_le _, (fun b hb => by simp at hb), ha.keeps [1, 2, 3] _ rfl, hS⟩ ?_
  rintro n_ a w ⟨i, rfl, hi, hall, ha, hS⟩
  refine wp_seq (wp_seq (jX [0, 1, 2, 3, 4] (jQ [(0, 10, iv (i : Int)), (1, 11, ptr b1 0)] ha fun a ha => ?_)))
  refine jU (d := 12) (b := b1) (j := 0) ha (hS.blk 0 rfl) rfl fun a ha => ?_
  refine jQ [(3, 13, iv (pv.n : Int)), (4, 14, .bool (decide ((i : Int) < (pv.n : Int))))] ha fun a ha => ?_
  refine jY (jJ ?_)
  by_cases c6 : (i : Int) < (pv.n : Int)
  ·
   have hlt : i < P.length := by have := c6; omega
   obtain ⟨body, hb⟩ : ∃ b, P[i]? = some b := ⟨_, List.getElem?_eq_getElem hlt⟩;obtain ⟨sb, hbn, hbA, hsb⟩ := RdProg.body hPr (Sat.rest [_] hS) hb;refine jG ha rfl (decide_eq_true c6) ?_;refine wp_skip (jJ (wp_seq (wp_block (wp_seq (wp_seq (jX [0, 1, 2, 3, 4, 5, 6] (jQ [(0, 17, ptr b1 0)] ha fun a ha => ?_)))))));refine jU (d := 18) (b := b1) (j := 0) ha (hS.blk 0 rfl) rfl fun a ha => ?_;refine jQ [(2, 19, iv (i : Int))] ha fun a ha => ?_;refine xU (.pointer (some ⟨bk pv, of_ pv + i * 1, none⟩)) ha (kX (s := pv) (el := 95) (sz := 1) (j := i) ha (yU (t := 38) (x := 18) (y := 19) (d := 20)) rfl rfl (by kernel_rfl) (by kernel_rfl) (hpA (by omega)) (by omega)) fun a ha => ?_;refine xU (.slice sb.A sb.n sb.c) ha (zK ha (zV (t := 95) (x := 20) (d := 21) (ty := 95)) rfl (by kernel_rfl) (fun w' hw => by rw [hw, Nat.mul_one]; exact ((hsb.more [_]) _ hS).1)) fun a ha => ?_;refine jQ [(5, 22, iv (sb.n : Int)), (6, 23, .bool (decide ((sb.n : Int) > 8)))] ha fun a ha => ?_;refine jY (jJ ?_)
   by_cases c7 : (sb.n : Int) > 8
   ·
    refine jG ha rfl (decide_eq_true c7) ?_;refine wp_seq (jX [0] (jQ [(0, 2, .bool false)] ha fun a ha => ?_));refine jY (jJ (wp_ret (xQ (in_r (xQ (xQ (in_r (xQ (qK ha (by kernel_rfl) (yJ (t := 2) ha rfl) ?_)))))))));have hE := progQ_no (List.mem_of_getElem? hb) (okB_len (by have := c7; omega));rw [hE];exact ⟨rfl, Sat.rest [_] hS⟩
   refine jV ha rfl (decide_eq_false c7) ?_;refine wp_skip (jJ (wp_seq (jX [0] (jQ [(0, 4, iv 0)] ha fun a ha => ?_))));refine jY (jJ (wp_block ?_));refine wp_loop_ghost (fun n_ a_ w_ => ∃ (j : Nat), n_ = body.length - j ∧ (j ≤ body.length) ∧ (∀ s ∈ body.take j, stepB (P.length : Int) s.k s.a s.b = true) ∧ Has 45 [(1, ptr b1 0), (2, .bool false), (3, iv (i : Int)), (4, iv (j : Int))] a_ ∧ Sat w0 w_ ((SX.blk b1 [.slice pv.A pv.n pv.c] 40) :: Rs)) _ ⟨0, rfl, Nat.zero_le _, (fun b hb => by simp at hb), ha.keeps [1, 2, 3, 4] _ rfl, hS⟩ ?_
   rintro n_ a w ⟨j, rfl, hj, hin, ha, hS⟩
   refine wp_seq (wp_seq (jX [0, 1, 2, 3, 4, 5, 6, 7] (jQ [(0, 24, iv (j : Int)), (1, 25, ptr b1 0)] ha fun a ha => ?_)));refine jU (d := 26) (b := b1) (j := 0) ha (hS.blk 0 rfl) rfl fun a ha => ?_;refine jQ [(3, 27, iv (i : Int))] ha fun a ha => ?_;refine xU (.pointer (some ⟨bk pv, of_ pv + i * 1, none⟩)) ha (kX (s := pv) (el := 95) (sz := 1) (j := i) ha (yU (t := 38) (x := 26) (y := 27) (d := 28)) rfl rfl (by kernel_rfl) (by kernel_rfl) (hpA (by omega)) (by omega)) fun a ha => ?_;refine xU (.slice sb.A sb.n sb.c) ha (zK ha (zV (t := 95) (x := 28) (d := 29) (ty := 95)) rfl (by kernel_rfl) (fun w' hw => by rw [hw, Nat.mul_one]; exact ((hsb.more [_]) _ hS).1)) fun a ha => ?_;refine jQ [(6, 30, iv (sb.n : Int)), (7, 31, .bool (decide ((j : Int) < (sb.n : Int))))] ha fun a ha => ?_;refine jY (jJ ?_)
   by_cases c8 : (j : Int) < (sb.n : Int)
   ·
    have hlj : j < body.length := by have := c8; omega
    obtain ⟨z, hz⟩ : ∃ z, body[j]? = some z := ⟨_, List.getElem?_eq_getElem hlj⟩;refine jG ha rfl (decide_eq_true c8) ?_;refine wp_skip (jJ (wp_seq (wp_block (wp_seq (xH 9 11 hS fun w hS => ?_)))));refine yW 0 34 ha hS (fun _ hw => hw.blk 0 rfl) fun a ha => ?_;refine jK (k := 9) [(1, 35, ptr b1 0)] ha (.inr hS) fun a ha => ?_;refine d_ldN 2 (d := 36) (b := b1) (j := 0) ha hS (fun _ hw => hw.blk 0 rfl) rfl fun a ha => ?_;refine jK (k := 7) [(3, 37, iv (i : Int))] ha (.inr hS) fun a ha => ?_;refine zQ 4 (.pointer (some ⟨bk pv, of_ pv + i * 1, none⟩)) ha (kX (s := pv) (el := 95) (sz := 1) (j := i) ha (yU (t := 38) (x := 36) (y := 37) (d := 38)) rfl rfl (by kernel_rfl) (by kernel_rfl) (hpA (by omega)) (by omega)) (.inr hS) fun a ha => ?_;refine d_valN (i := 5) (v := .slice sb.A sb.n sb.c) ha (by decide) (zK (v := .slice sb.A sb.n sb.c) ha (zV (t := 95) (x := 38) (d := 39) (ty := 95)) rfl (by kernel_rfl) (fun w' hw => by rw [Nat.mul_one]; exact ((hsb.more [_]) _ hw).1)) hS (by kernel_rfl) (by kernel_rfl) (kY (kU (kY (kY (kU (kU (kY (kY (kU (kY (kV))))))))))) fun a ha => ?_;refine jK (k := 4) [(6, 40, iv (j : Int))] ha (.inr hS) fun a ha => ?_;refine zQ 7 (.pointer (some ⟨bk sb, of_ sb + j * 3, none⟩)) ha (kX (s := sb) (el := 98) (sz := 3) (j := j) ha (yU (t := 95) (x := 39) (y := 40) (d := 41)) rfl rfl (by kernel_rfl) (by kernel_rfl) (hbA (by omega)) (by omega)) (.inr hS) fun a ha => ?_;refine zH 8 (.agg #[iv z.k, iv z.a, iv z.b]) ha (v_loadL ha (zV (t := 98) (x := 41) (d := 42) (ty := 98)) rfl (fun w' hw => ((hsb.more [_]) _ hw).2.load hz)) hS fun a ha => ?_;refine jH 9 (qG 43 (vs := [.agg #[.slice pv.A pv.n pv.c], .agg #[iv z.k, iv z.a, iv z.b]]) ha (q_step hS (by omega)) fun v9 w a hp10 ha => ?_);obtain ⟨rfl, hS⟩ := hp10;refine xJ (jK (k := 0) [(10, 44, .bool (!((stepB (pv.n : Int) z.k z.a z.b))))] ha (.inl (by kernel_rfl)) fun a ha => ?_);refine xX (jJ ?_)
    rcases Bool.eq_false_or_eq_true (stepB (pv.n : Int) z.k z.a z.b) with c11 | c11
    ·
     refine jV ha rfl (zX c11) ?_;refine wp_skip (in_n (jJ (jX [0, 1, 2] (jQ [(0, 32, iv (j : Int))] ha fun a ha => ?_))));refine zJ 33 ((j : Int) + 1) ha fun a ha => ?_;refine jQ [(2, 4, iv ((j : Int) + 1))] ha fun a ha => ?_;refine jY (jJ ?_);exact ⟨_, by omega, j + 1, rfl, by omega, take_all hin hz (by rw [← hpn]; exact c11), ha.keeps [1, 2, 3, 4] _ rfl, hS⟩
    refine jG ha rfl (kJ c11) ?_;refine wp_seq (jX [0] (jQ [(0, 2, .bool false)] ha fun a ha => ?_));refine jY (jJ (wp_ret (in_r (xQ (xQ (in_r (in_r (xQ (xQ (in_r (xQ (qK ha (by kernel_rfl) (yJ (t := 2) ha rfl) ?_))))))))))));have hE := progQ_no (List.mem_of_getElem? hb) (okB_step (List.mem_of_getElem? hz) (by rw [← hpn]; exact c11));rw [hE];exact ⟨rfl, Sat.rest [_] hS⟩
   refine jV ha rfl (decide_eq_false c8) ?_;refine wp_exit (yX (yX (in_x (in_n (jJ (jX [0, 1, 2] (jQ [(0, 15, iv (i : Int))] ha fun a ha => ?_)))))));refine zJ 16 ((i : Int) + 1) ha fun a ha => ?_;refine jQ [(2, 3, iv ((i : Int) + 1))] ha fun a ha => ?_;refine jY (jJ ?_);exact ⟨_, by omega, i + 1, rfl, by omega, take_all hall hb (okB_yes (by omega) (by rw [show body = body.take j by rw [List.take_of_length_le (by have := c8; omega)]]; exact hin)), ha.keeps [1, 2, 3] _ rfl, hS⟩
  refine jV ha rfl (decide_eq_false c6) ?_
  refine wp_exit (yX (yX (in_x (jJ (wp_seq (jX [0] (jQ [(0, 2, .bool true)] ha fun a ha => ?_)))))))
  refine jY (jJ (wp_ret (qK ha (by kernel_rfl) (yJ (t := 2) ha rfl) ?_)))
  have hE := progQ_yes (by rw [← hpn]; exact c5) (by rw [show P = P.take i by rw [List.take_of_length_le (by have := c6; omega)]]; intro b hb; rw [List.length_take, Nat.min_eq_left hi, show i = P.length by have := c6; omega]; exact hall b hb)
  rw [hE]
  exact ⟨rfl, Sat.rest [_] hS⟩
 refine jG ha rfl (kJ c5) ?_
 refine wp_seq (jX [0] (jQ [(0, 2, .bool false)] ha fun a ha => ?_))
 refine jY (jJ (wp_ret (xQ (qK ha (by kernel_rfl) (yJ (t := 2) ha rfl) ?_))))
 have hE := progQ_len (by rw [← hpn]; exact c5)
 rw [hE]
 exact ⟨rfl, Sat.rest [_] hS⟩
theorem code40 : Try.f40.body = some (Code.seq (cr Try.f40 0 false) (Code.seq (cr Try.f40 1 false) Code.ret)) := by kernel_rfl
theorem q_ask {w0 w : World} {Rs : List Asn} {P : List (List Stp)} {pv : Sl} {sbs : List Sl} {f arg fuel : Int} (hS : Sat w0 w Rs) (hl : P.length ≤ 2000000) (hPr : Keeps w0 Rs (fun w => RdProg w pv sbs P)) :
  Calls Try.prog 40 #[.agg #[.slice pv.A pv.n pv.c], .int .i64 f, .int .i64 arg, .int .i64 fuel] w (Ret fun r w' => r = .bool (progQ P && (decide ((0 : Int) ≤ f) && decide (f ≤ (pv.n : Int) - 1)) && numB arg && (decide ((0 : Int) ≤ fuel) && decide (fuel ≤ 200))) ∧ Sat w0 w' Rs) := by
 have hpn := (hPr w hS).len
 refine enter (n := 24) Try.func40 code40 (by kernel_rfl) (Nat.le_of_ble_eq_true rfl) (fun a ha => ?_)
 replace ha : Has 24 [(0, .agg #[.slice pv.A pv.n pv.c]), (1, iv f), (2, iv arg), (3, iv fuel)] a := ha
 refine wp_seq (jX [0, 1] (jZ (qJ 4 [.slice pv.A pv.n pv.c] 40 (ptr · 0) ha hS fun b1 w a hb2 hS ha => ?_)))
 refine jQ [(1, 8, .bool false)] ha fun a ha => ?_
 refine jY (jJ (wp_seq (jX [0, 1, 2, 3, 4, 5, 6, 7, 8, 9, 10, 11, 12, 13, 14, 15] (xG 9 ha (hS.blk 0 rfl) fun a ha => ?_))))
 refine jZ (qG 10 (vs := [.agg #[.slice pv.A pv.n pv.c]]) ha (q_prog hS hl (hPr.more [_])) fun v3 w a hp4 ha => ?_)
 obtain ⟨rfl, hS⟩ := hp4
 refine jQ [(2, 11, .bool (progQ P))] ha fun a ha => ?_
 rcases Bool.eq_false_or_eq_true (progQ P) with c5 | c5
 ·
  replace ha := ha.turn 10 (.bool true) rfl (congrArg Value.bool c5)
  replace ha := ha.turn 11 (.bool true) rfl (congrArg Value.bool c5)
  refine xG 12 ha (hS.blk 0 rfl) fun a ha => ?_
  refine jQ [(4, 13, iv f)] ha fun a ha => ?_
  refine jZ (qG 14 (vs := [.agg #[.slice pv.A pv.n pv.c], iv f]) ha (q_fun hS _ (by omega)) fun v6 w a hp7 ha => ?_)
  obtain ⟨rfl, hS⟩ := hp7
  refine jQ [(6, 15, .bool (decide ((0 : Int) ≤ f) && decide (f ≤ (pv.n : Int) - 1))), (7, 16, .bool (decide ((0 : Int) ≤ f) && decide (f ≤ (pv.n : Int) - 1)))] ha fun a ha => ?_
  rcases Bool.eq_false_or_eq_true (decide ((0 : Int) ≤ f) && decide (f ≤ (pv.n : Int) - 1)) with c8 | c8
  ·
   replace ha := ha.turn 14 (.bool true) rfl (congrArg Value.bool c8);replace ha := ha.turn 15 (.bool true) rfl (congrArg Value.bool c8);replace ha := ha.turn 16 (.bool true) rfl (congrArg Value.bool c8);refine jQ [(8, 17, iv arg)] ha fun a ha => ?_;refine jZ (qG 18 (vs := [iv arg]) ha (q_num hS _) fun v9 w a hp10 ha => ?_);obtain ⟨rfl, hS⟩ := hp10;refine jQ [(10, 19, .bool (numB arg)), (11, 20, .bool (numB arg))] ha fun a ha => ?_
   rcases Bool.eq_false_or_eq_true (numB arg) with c11 | c11
   ·
    replace ha := ha.turn 18 (.bool true) rfl (congrArg Value.bool c11);replace ha := ha.turn 19 (.bool true) rfl (congrArg Value.bool c11);replace ha := ha.turn 20 (.bool true) rfl (congrArg Value.bool c11);refine jQ [(12, 21, iv fuel)] ha fun a ha => ?_;refine jZ (qG 22 (vs := [iv fuel, iv 0, iv 200]) ha (q_in hS _ _ _) fun v12 w a hp13 ha => ?_);obtain ⟨rfl, hS⟩ := hp13;refine jQ [(14, 23, .bool (decide ((0 : Int) ≤ fuel) && decide (fuel ≤ 200))), (15, 8, .bool (decide ((0 : Int) ≤ fuel) && decide (fuel ≤ 200)))] ha fun a ha => ?_;refine jY ?_;replace ha := ha.as [(8, .bool (decide ((0 : Int) ≤ fuel) && decide (fuel ≤ 200)))] rfl;refine jJ (wp_ret (qK ha (by kernel_rfl) (yJ (t := 8) ha rfl) ?_));have hE : (progQ P && (decide ((0 : Int) ≤ f) && decide (f ≤ (pv.n : Int) - 1)) && numB arg && (decide ((0 : Int) ≤ fuel) && decide (fuel ≤ 200))) = (decide ((0 : Int) ≤ fuel) && decide (fuel ≤ 200)) := by simp only [c5, c8, c11, Bool.true_and, Bool.false_and, Bool.and_self]
    rw [hE];exact ⟨rfl, Sat.rest [_] hS⟩
   replace ha := ha.turn 18 (.bool false) rfl (congrArg Value.bool c11);replace ha := ha.turn 19 (.bool false) rfl (congrArg Value.bool c11);replace ha := ha.turn 20 (.bool false) rfl (congrArg Value.bool c11);refine jQ [(12, 21, undef), (13, 22, undef), (14, 23, .bool false), (15, 8, .bool false)] ha fun a ha => ?_;refine jY ?_;replace ha := ha.as [(8, .bool false)] rfl;refine jJ (wp_ret (qK ha (by kernel_rfl) (yJ (t := 8) ha rfl) ?_));have hE : (progQ P && (decide ((0 : Int) ≤ f) && decide (f ≤ (pv.n : Int) - 1)) && numB arg && (decide ((0 : Int) ≤ fuel) && decide (fuel ≤ 200))) = false := by simp only [c5, c8, c11, Bool.true_and, Bool.false_and, Bool.and_self]
   rw [hE];exact ⟨rfl, Sat.rest [_] hS⟩
  replace ha := ha.turn 14 (.bool false) rfl (congrArg Value.bool c8)
  replace ha := ha.turn 15 (.bool false) rfl (congrArg Value.bool c8)
  replace ha := ha.turn 16 (.bool false) rfl (congrArg Value.bool c8)
  refine jQ [(8, 17, undef), (9, 18, undef), (10, 19, .bool false), (11, 20, .bool false), (12, 21, undef), (13, 22, undef), (14, 23, .bool false), (15, 8, .bool false)] ha fun a ha => ?_
  refine jY ?_
  replace ha := ha.as [(8, .bool false)] rfl
  refine jJ (wp_ret (qK ha (by kernel_rfl) (yJ (t := 8) ha rfl) ?_))
  have hE : (progQ P && (decide ((0 : Int) ≤ f) && decide (f ≤ (pv.n : Int) - 1)) && numB arg && (decide ((0 : Int) ≤ fuel) && decide (fuel ≤ 200))) = false := by simp only [c5, c8, Bool.true_and, Bool.false_and, Bool.and_self]
  rw [hE]
  exact ⟨rfl, Sat.rest [_] hS⟩
 replace ha := ha.turn 10 (.bool false) rfl (congrArg Value.bool c5)
 replace ha := ha.turn 11 (.bool false) rfl (congrArg Value.bool c5)
 refine jQ [(3, 12, undef), (4, 13, undef), (5, 14, undef), (6, 15, .bool false), (7, 16, .bool false), (8, 17, undef), (9, 18, undef), (10, 19, .bool false), (11, 20, .bool false), (12, 21, undef), (13, 22, undef), (14, 23, .bool false), (15, 8, .bool false)] ha fun a ha => ?_
 refine jY ?_
 replace ha := ha.as [(8, .bool false)] rfl
 refine jJ (wp_ret (qK ha (by kernel_rfl) (yJ (t := 8) ha rfl) ?_))
 have hE : (progQ P && (decide ((0 : Int) ≤ f) && decide (f ≤ (pv.n : Int) - 1)) && numB arg && (decide ((0 : Int) ≤ fuel) && decide (fuel ≤ 200))) = false := by simp only [c5, Bool.true_and, Bool.false_and, Bool.and_self]
 rw [hE]
 exact ⟨rfl, Sat.rest [_] hS⟩
theorem code71 : Try.f71.body = some (Code.seq (cr Try.f71 0 false) (Code.seq (Code.seq (cr Try.f71 1 false) (Code.cond (Operand.tmp 9) (Code.seq (cr Try.f71 2 false) Code.ret) Code.skip)) (Code.seq (Code.seq (cr Try.f71 3 false) (Code.cond (Operand.tmp 14) (Code.seq (cr Try.f71 4 false) Code.ret) Code.skip)) (Code.seq (Code.seq (cr Try.f71 5 false) (Code.cond (Operand.tmp 19) (Code.seq (cr Try.f71 6 false) Code.ret) Code.skip)) (Code.seq (cr Try.f71 7 false) Code.ret))))) := by kernel_rfl
theorem eq_step {w0 w : World} {Rs : List Asn} {k xa xb : Int} (hS : Sat w0 w Rs)  :
  Calls Try.prog 71 #[.agg #[iv k, iv xa, iv xb], .agg #[iv k, iv xa, iv xb]] w (Ret fun r w' => r = .bool true ∧ Sat w0 w' Rs) := by
 refine enter (n := 20) Try.func71 code71 (by kernel_rfl) (Nat.le_of_ble_eq_true rfl) (fun a ha => ?_)
 replace ha : Has 20 [(0, .agg #[iv k, iv xa, iv xb]), (1, .agg #[iv k, iv xa, iv xb])] a := ha
 refine wp_seq (jX [0, 1, 2] (jZ (qJ 2 [iv k, iv xa, iv xb] 98 (ptr · 0) ha hS fun b1 w a hb2 hS ha => ?_)))
 refine jZ (qJ 3 [iv k, iv xa, iv xb] 98 (ptr · 0) ha hS fun b3 w a hb4 hS ha => ?_)
 refine jQ [(2, 4, .bool false)] ha fun a ha => ?_
 refine jY (jJ (wp_seq (wp_seq (jX [0, 1, 2, 3, 4] (jQ [(0, 5, ptr b1 0)] ha fun a ha => ?_)))))
 refine jU (d := 6) (b := b1) (j := 0) ha (hS.blk 1 rfl) rfl fun a ha => ?_
 refine jQ [(2, 7, ptr b3 0)] ha fun a ha => ?_
 refine jU (d := 8) (b := b3) (j := 0) ha (hS.blk 0 rfl) rfl fun a ha => ?_
 refine xU (.bool false) ha ((qZ (v := .bool (!decide (k = k))) ha (zW (op := (Op.binOp BinOp.neq 3 (Operand.tmp 6) (Operand.tmp 8) 3)) (d := some 9) (ty := 4)) (by kernel_rfl) (fun _ => by kernel_rfl)).as (by simp)) fun a ha => ?_
 refine jY (jJ ?_)
 refine jV ha rfl rfl ?_
 refine wp_skip (jJ (wp_seq (wp_seq (jX [0, 1, 2, 3, 4] (jQ [(0, 10, ptr b1 1)] ha fun a ha => ?_)))))
 refine jU (d := 11) (b := b1) (j := 1) ha (hS.blk 1 rfl) rfl fun a ha => ?_
 refine jQ [(2, 12, ptr b3 1)] ha fun a ha => ?_
 refine jU (d := 13) (b := b3) (j := 1) ha (hS.blk 0 rfl) rfl fun a ha => ?_
 refine xU (.bool false) ha ((qZ (v := .bool (!decide (xa = xa))) ha (zW (op := (Op.binOp BinOp.neq 3 (Operand.tmp 11) (Operand.tmp 13) 3)) (d := some 14) (ty := 4)) (by kernel_rfl) (fun _ => by kernel_rfl)).as (by simp)) fun a ha => ?_
 refine jY (jJ ?_)
 refine jV ha rfl rfl ?_
 refine wp_skip (jJ (wp_seq (wp_seq (jX [0, 1, 2, 3, 4] (jQ [(0, 15, ptr b1 2)] ha fun a ha => ?_)))))
 refine jU (d := 16) (b := b1) (j := 2) ha (hS.blk 1 rfl) rfl fun a ha => ?_
 refine jQ [(2, 17, ptr b3 2)] ha fun a ha => ?_
 refine jU (d := 18) (b := b3) (j := 2) ha (hS.blk 0 rfl) rfl fun a ha => ?_
 refine xU (.bool false) ha ((qZ (v := .bool (!decide (xb = xb))) ha (zW (op := (Op.binOp BinOp.neq 3 (Operand.tmp 16) (Operand.tmp 18) 3)) (d := some 19) (ty := 4)) (by kernel_rfl) (fun _ => by kernel_rfl)).as (by simp)) fun a ha => ?_
 refine jY (jJ ?_)
 refine jV ha rfl rfl ?_
 refine wp_skip (jJ (wp_seq (jX [0] (jQ [(0, 4, .bool true)] ha fun a ha => ?_))))
 refine jY ?_
 replace ha := ha.as [(4, .bool true)] rfl
 refine jJ (wp_ret (qK ha (by kernel_rfl) (yJ (t := 4) ha rfl) ?_))
 exact ⟨rfl, Sat.rest [_, _] hS⟩
theorem code56 : Try.f56.body = some (Code.seq (cr Try.f56 0 false) (Code.seq (Code.seq (cr Try.f56 1 false) (Code.cond (Operand.tmp 10) (Code.seq (cr Try.f56 2 false) Code.ret) Code.skip)) (Code.seq (Code.seq (cr Try.f56 3 false) (Code.block 0 (Code.loop (Code.seq (Code.seq (cr Try.f56 4 false) (Code.cond (Operand.tmp 14) Code.skip (Code.exit 0))) (Code.seq (Code.block 1 (Code.seq (cr Try.f56 6 true) (Code.cond (Operand.tmp 26) (Code.seq (cr Try.f56 7 false) Code.ret) Code.skip))) (cr Try.f56 5 false)))))) (Code.seq (cr Try.f56 8 false) Code.ret)))) := by kernel_rfl
theorem eq_steps {w0 w : World} {Rs : List Asn} {b : List Stp} {s1 s2 : Sl} (hS : Sat w0 w Rs) (h1 : Keeps w0 Rs (fun w => RdBody w s1 b)) (h2 : Keeps w0 Rs (fun w => RdBody w s2 b)) (hlb : b.length ≤ 2000000) :
  Calls Try.prog 56 #[.slice s1.A s1.n s1.c, .slice s2.A s2.n s2.c] w (Ret fun r w' => r = .bool true ∧ Sat w0 w' Rs) := by
 have hn1 := (h1 w hS).len
 have hn2 := (h2 w hS).len
 have hA1 := (h1 w hS).A
 have hA2 := (h2 w hS).A
 refine enter (n := 27) Try.func56 code56 (by kernel_rfl) (Nat.le_of_ble_eq_true rfl) (fun a ha => ?_)
 replace ha : Has 27 [(0, .slice s1.A s1.n s1.c), (1, .slice s2.A s2.n s2.c)] a := ha
 refine wp_seq (jX [0] (jQ [(0, 4, .bool false)] ha fun a ha => ?_))
 refine jY (jJ (wp_seq (wp_seq (jX [0, 1, 2, 3, 4] (jQ [(0, 6, .slice s1.A s1.n s1.c), (1, 7, iv (s1.n : Int)), (2, 8, .slice s2.A s2.n s2.c), (3, 9, iv (s2.n : Int)), (4, 10, .bool (!(decide ((s1.n : Int) = (s2.n : Int)))))] ha fun a ha => ?_)))))
 refine jY (jJ ?_)
 by_cases c1 : (s1.n : Int) = (s2.n : Int)
 ·
  refine jV ha rfl (zX (decide_eq_true c1)) ?_
  refine wp_skip (jJ (wp_seq (wp_seq (jX [0] (jQ [(0, 5, iv 0)] ha fun a ha => ?_)))))
  refine jY (jJ (wp_block ?_))
  refine wp_loop_ghost (fun n_ a_ w_ => ∃ (i : Nat), n_ = b.length - i ∧ (i ≤ b.length) ∧ Has 27 [(0, .slice s1.A s1.n s1.c), (1, .slice s2.A s2.n s2.c), (5, iv (i : Int))] a_ ∧ Sat w0 w_ (Rs)) _ ⟨0, rfl, Nat.zero_le _, ha.keeps [0, 1, 5] _ rfl, hS⟩ ?_
  rintro n_ a w ⟨i, rfl, hi, ha, hS⟩
  refine wp_seq (wp_seq (jX [0, 1, 2, 3] (jQ [(0, 11, iv (i : Int)), (1, 12, .slice s1.A s1.n s1.c), (2, 13, iv (s1.n : Int)), (3, 14, .bool (decide ((i : Int) < (s1.n : Int))))] ha fun a ha => ?_)))
  refine jY (jJ ?_)
  by_cases c2 : (i : Int) < (s1.n : Int)
  ·
   have hlt : i < b.length := by have := c2; omega
   obtain ⟨z, hz⟩ : ∃ z, b[i]? = some z := ⟨_, List.getElem?_eq_getElem hlt⟩;refine jG ha rfl (decide_eq_true c2) ?_;refine wp_skip (jJ (wp_seq (wp_block (wp_seq (xH 8 10 hS fun w hS => ?_)))));refine jK (k := 8) [(0, 17, .slice s1.A s1.n s1.c), (1, 18, iv (i : Int))] ha (.inr hS) fun a ha => ?_;refine zQ 2 (.pointer (some ⟨bk s1, of_ s1 + i * 3, none⟩)) ha (kX (s := s1) (el := 98) (sz := 3) (j := i) ha (yU (t := 95) (x := 17) (y := 18) (d := 19)) rfl rfl (by kernel_rfl) (by kernel_rfl) (hA1 (by omega)) (by omega)) (.inr hS) fun a ha => ?_;refine zH 3 (.agg #[iv z.k, iv z.a, iv z.b]) ha (v_loadL ha (zV (t := 98) (x := 19) (d := 20) (ty := 98)) rfl (fun w' hw => (h1 w' hw).load hz)) hS fun a ha => ?_;refine jK (k := 4) [(4, 21, .slice s2.A s2.n s2.c), (5, 22, iv (i : Int))] ha (.inr hS) fun a ha => ?_;refine zQ 6 (.pointer (some ⟨bk s2, of_ s2 + i * 3, none⟩)) ha (kX (s := s2) (el := 98) (sz := 3) (j := i) ha (yU (t := 95) (x := 21) (y := 22) (d := 23)) rfl rfl (by kernel_rfl) (by kernel_rfl) (hA2 (by omega)) (by omega)) (.inr hS) fun a ha => ?_;refine zH 7 (.agg #[iv z.k, iv z.a, iv z.b]) ha (v_loadL ha (zV (t := 98) (x := 23) (d := 24) (ty := 98)) rfl (fun w' hw => (h2 w' hw).load hz)) hS fun a ha => ?_;refine jH 8 (qG 25 (vs := [.agg #[iv z.k, iv z.a, iv z.b], .agg #[iv z.k, iv z.a, iv z.b]]) ha (eq_step hS) fun v3 w a hp4 ha => ?_);obtain ⟨rfl, hS⟩ := hp4;refine xJ (jK (k := 0) [(9, 26, .bool false)] ha (.inl (by kernel_rfl)) fun a ha => ?_);refine xX (jJ ?_);refine jV ha rfl rfl ?_;refine wp_skip (in_n (jJ (jX [0, 1, 2] (jQ [(0, 15, iv (i : Int))] ha fun a ha => ?_))));refine zJ 16 ((i : Int) + 1) ha fun a ha => ?_;refine jQ [(2, 5, iv ((i : Int) + 1))] ha fun a ha => ?_;refine jY (jJ ?_);exact ⟨_, by omega, i + 1, rfl, by omega, ha.keeps [0, 1, 5] _ rfl, hS⟩
  refine jV ha rfl (decide_eq_false c2) ?_
  refine wp_exit (yX (yX (in_x (jJ (wp_seq (jX [0] (jQ [(0, 4, .bool true)] ha fun a ha => ?_)))))))
  refine jY (jJ (wp_ret (qK ha (by kernel_rfl) (yJ (t := 4) ha rfl) ?_)))
  exact ⟨rfl, hS⟩
 exact absurd (by rw [hn1, hn2]) c1
theorem code36 : Try.f36.body = some (Code.seq (cr Try.f36 0 false) (Code.seq (Code.seq (cr Try.f36 1 false) (Code.cond (Operand.tmp 10) (Code.seq (cr Try.f36 2 false) Code.ret) Code.skip)) (Code.seq (Code.seq (cr Try.f36 3 false) (Code.block 0 (Code.loop (Code.seq (Code.seq (cr Try.f36 4 false) (Code.cond (Operand.tmp 14) Code.skip (Code.exit 0))) (Code.seq (Code.block 1 (Code.seq (cr Try.f36 6 true) (Code.cond (Operand.tmp 26) (Code.seq (cr Try.f36 7 false) Code.ret) Code.skip))) (cr Try.f36 5 false)))))) (Code.seq (cr Try.f36 8 false) Code.ret)))) := by kernel_rfl
theorem eq_rows {w0 w : World} {Rs : List Asn} {b : List (List Stp)} {s1 s2 : Sl} {sbs1 sbs2 : List Sl} (hS : Sat w0 w Rs) (h1 : Keeps w0 Rs (fun w => RdProg w s1 sbs1 b)) (h2 : Keeps w0 Rs (fun w => RdProg w s2 sbs2 b)) (hlb : b.length ≤ 2000000) (hlen : ∀ z ∈ b, z.length ≤ 2000000) :
  Calls Try.prog 36 #[.slice s1.A s1.n s1.c, .slice s2.A s2.n s2.c] w (Ret fun r w' => r = .bool true ∧ Sat w0 w' Rs) := by
 have hn1 := (h1 w hS).len
 have hn2 := (h2 w hS).len
 have hA1 := (h1 w hS).A
 have hA2 := (h2 w hS).A
 refine enter (n := 27) Try.func36 code36 (by kernel_rfl) (Nat.le_of_ble_eq_true rfl) (fun a ha => ?_)
 replace ha : Has 27 [(0, .slice s1.A s1.n s1.c), (1, .slice s2.A s2.n s2.c)] a := ha
 refine wp_seq (jX [0] (jQ [(0, 4, .bool false)] ha fun a ha => ?_))
 refine jY (jJ (wp_seq (wp_seq (jX [0, 1, 2, 3, 4] (jQ [(0, 6, .slice s1.A s1.n s1.c), (1, 7, iv (s1.n : Int)), (2, 8, .slice s2.A s2.n s2.c), (3, 9, iv (s2.n : Int)), (4, 10, .bool (!(decide ((s1.n : Int) = (s2.n : Int)))))] ha fun a ha => ?_)))))
 refine jY (jJ ?_)
 by_cases c1 : (s1.n : Int) = (s2.n : Int)
 ·
  refine jV ha rfl (zX (decide_eq_true c1)) ?_
  refine wp_skip (jJ (wp_seq (wp_seq (jX [0] (jQ [(0, 5, iv 0)] ha fun a ha => ?_)))))
  refine jY (jJ (wp_block ?_))
  refine wp_loop_ghost (fun n_ a_ w_ => ∃ (i : Nat), n_ = b.length - i ∧ (i ≤ b.length) ∧ Has 27 [(0, .slice s1.A s1.n s1.c), (1, .slice s2.A s2.n s2.c), (5, iv (i : Int))] a_ ∧ Sat w0 w_ (Rs)) _ ⟨0, rfl, Nat.zero_le _, ha.keeps [0, 1, 5] _ rfl, hS⟩ ?_
  rintro n_ a w ⟨i, rfl, hi, ha, hS⟩
  refine wp_seq (wp_seq (jX [0, 1, 2, 3] (jQ [(0, 11, iv (i : Int)), (1, 12, .slice s1.A s1.n s1.c), (2, 13, iv (s1.n : Int)), (3, 14, .bool (decide ((i : Int) < (s1.n : Int))))] ha fun a ha => ?_)))
  refine jY (jJ ?_)
  by_cases c2 : (i : Int) < (s1.n : Int)
  ·
   have hlt : i < b.length := by have := c2; omega
   obtain ⟨z, hz⟩ : ∃ z, b[i]? = some z := ⟨_, List.getElem?_eq_getElem hlt⟩;obtain ⟨sb1, _, _, hsb1⟩ := RdProg.body h1 hS hz;obtain ⟨sb2, _, _, hsb2⟩ := RdProg.body h2 hS hz;refine jG ha rfl (decide_eq_true c2) ?_;refine wp_skip (jJ (wp_seq (wp_block (wp_seq (xH 8 10 hS fun w hS => ?_)))));refine jK (k := 8) [(0, 17, .slice s1.A s1.n s1.c), (1, 18, iv (i : Int))] ha (.inr hS) fun a ha => ?_;refine zQ 2 (.pointer (some ⟨bk s1, of_ s1 + i * 1, none⟩)) ha (kX (s := s1) (el := 95) (sz := 1) (j := i) ha (yU (t := 38) (x := 17) (y := 18) (d := 19)) rfl rfl (by kernel_rfl) (by kernel_rfl) (hA1 (by omega)) (by omega)) (.inr hS) fun a ha => ?_;refine zH 3 (.slice sb1.A sb1.n sb1.c) ha (zK ha (zV (t := 95) (x := 19) (d := 20) (ty := 95)) rfl (by kernel_rfl) (fun w' hw => by rw [Nat.mul_one]; exact (hsb1 w' hw).1)) hS fun a ha => ?_;refine jK (k := 4) [(4, 21, .slice s2.A s2.n s2.c), (5, 22, iv (i : Int))] ha (.inr hS) fun a ha => ?_;refine zQ 6 (.pointer (some ⟨bk s2, of_ s2 + i * 1, none⟩)) ha (kX (s := s2) (el := 95) (sz := 1) (j := i) ha (yU (t := 38) (x := 21) (y := 22) (d := 23)) rfl rfl (by kernel_rfl) (by kernel_rfl) (hA2 (by omega)) (by omega)) (.inr hS) fun a ha => ?_;refine zH 7 (.slice sb2.A sb2.n sb2.c) ha (zK ha (zV (t := 95) (x := 23) (d := 24) (ty := 95)) rfl (by kernel_rfl) (fun w' hw => by rw [Nat.mul_one]; exact (hsb2 w' hw).1)) hS fun a ha => ?_;refine jH 8 (qG 25 (vs := [.slice sb1.A sb1.n sb1.c, .slice sb2.A sb2.n sb2.c]) ha (eq_steps hS (fun w h => (hsb1 w h).2) (fun w h => (hsb2 w h).2) (hlen z (List.mem_of_getElem? hz))) fun v3 w a hp4 ha => ?_);obtain ⟨rfl, hS⟩ := hp4;refine xJ (jK (k := 0) [(9, 26, .bool false)] ha (.inl (by kernel_rfl)) fun a ha => ?_);refine xX (jJ ?_);refine jV ha rfl rfl ?_;refine wp_skip (in_n (jJ (jX [0, 1, 2] (jQ [(0, 15, iv (i : Int))] ha fun a ha => ?_))));refine zJ 16 ((i : Int) + 1) ha fun a ha => ?_;refine jQ [(2, 5, iv ((i : Int) + 1))] ha fun a ha => ?_;refine jY (jJ ?_);exact ⟨_, by omega, i + 1, rfl, by omega, ha.keeps [0, 1, 5] _ rfl, hS⟩
  refine jV ha rfl (decide_eq_false c2) ?_
  refine wp_exit (yX (yX (in_x (jJ (wp_seq (jX [0] (jQ [(0, 4, .bool true)] ha fun a ha => ?_)))))))
  refine jY (jJ (wp_ret (qK ha (by kernel_rfl) (yJ (t := 4) ha rfl) ?_)))
  exact ⟨rfl, hS⟩
 exact absurd (by rw [hn1, hn2]) c1
theorem code17 : Try.f17.body = some (Code.seq (cr Try.f17 0 false) (Code.seq (Code.seq (cr Try.f17 1 false) (Code.cond (Operand.tmp 10) (Code.seq (cr Try.f17 2 false) Code.ret) Code.skip)) (Code.seq (cr Try.f17 3 false) Code.ret))) := by kernel_rfl
theorem eq_prog {w0 w : World} {Rs : List Asn} {b : List (List Stp)} {s1 s2 : Sl} {sbs1 sbs2 : List Sl} (hS : Sat w0 w Rs) (h1 : Keeps w0 Rs (fun w => RdProg w s1 sbs1 b)) (h2 : Keeps w0 Rs (fun w => RdProg w s2 sbs2 b)) (hlb : b.length ≤ 2000000) (hlen : ∀ z ∈ b, z.length ≤ 2000000) :
  Calls Try.prog 17 #[.agg #[.slice s1.A s1.n s1.c], .agg #[.slice s2.A s2.n s2.c]] w (Ret fun r w' => r = .bool true ∧ Sat w0 w' Rs) := by
 refine enter (n := 11) Try.func17 code17 (by kernel_rfl) (Nat.le_of_ble_eq_true rfl) (fun a ha => ?_)
 replace ha : Has 11 [(0, .agg #[.slice s1.A s1.n s1.c]), (1, .agg #[.slice s2.A s2.n s2.c])] a := ha
 refine wp_seq (jX [0, 1, 2] (jZ (qJ 2 [.slice s1.A s1.n s1.c] 40 (ptr · 0) ha hS fun b1 w a hb2 hS ha => ?_)))
 refine jZ (qJ 3 [.slice s2.A s2.n s2.c] 40 (ptr · 0) ha hS fun b3 w a hb4 hS ha => ?_)
 refine jQ [(2, 4, .bool false)] ha fun a ha => ?_
 refine jY (jJ (wp_seq (wp_seq (jX [0, 1, 2, 3, 4, 5] (jQ [(0, 5, ptr b1 0)] ha fun a ha => ?_)))))
 refine jU (d := 6) (b := b1) (j := 0) ha (hS.blk 1 rfl) rfl fun a ha => ?_
 refine jQ [(2, 7, ptr b3 0)] ha fun a ha => ?_
 refine jU (d := 8) (b := b3) (j := 0) ha (hS.blk 0 rfl) rfl fun a ha => ?_
 refine jZ (qG 9 (vs := [.slice s1.A s1.n s1.c, .slice s2.A s2.n s2.c]) ha (eq_rows hS (h1.more [_, _]) (h2.more [_, _]) hlb hlen) fun v5 w a hp6 ha => ?_)
 obtain ⟨rfl, hS⟩ := hp6
 refine jQ [(5, 10, .bool false)] ha fun a ha => ?_
 refine jY (jJ ?_)
 refine jV ha rfl rfl ?_
 refine wp_skip (jJ (wp_seq (jX [0] (jQ [(0, 4, .bool true)] ha fun a ha => ?_))))
 refine jY (jJ (wp_ret (qK ha (by kernel_rfl) (yJ (t := 4) ha rfl) ?_)))
 exact ⟨rfl, Sat.rest [_, _] hS⟩
abbrev rn (l : List (List ST)) (f arg fuel : Int) : RunR := runS (PL l) 0 f arg fuel
abbrev MO (b : Nat) (pv : Sl) (fuel made shared depth deepest : Int) (tr ow ca pa re : Sl) (bp : Nat) (k v : Int) : Asn := SX.blk b [.slice pv.A pv.n pv.c, .int .i64 fuel, .int .i64 made, .int .i64 shared, .int .i64 depth, .int .i64 deepest, .slice tr.A tr.n tr.c, .slice ow.A ow.n ow.c, .slice ca.A ca.n ca.c, .slice pa.A pa.n pa.c, .slice re.A re.n re.c, .map (some bp), .int .i64 k, .int .i64 v, .slice tr.A tr.n tr.c, .int .i64 made] 91
section
variable {w0 w : World} {Rs : List Asn} {s : Sl} {l : List (List ST)} {f arg fuel shared : Int}
theorem ranFrom_sat (hS : Sat w0 w Rs) (hr : RdP w s l) (ha : askB l f arg fuel = true) :
  Calls Try.prog 63 #[.agg #[.slice s.A s.n s.c], .int .i64 f, .int .i64 arg, .int .i64 fuel, .int .i64 shared] w (Ret fun r w' => ∃ bm : Nat, r = .tuple #[.pointer (some ⟨bm, 0, none⟩), .bool true] ∧ Sat w0 w' (mchO bm s fuel (runS (PL l) shared f arg fuel) :: Rs)) := by
 have key : ∀ r w', (∃ bm : Nat, r = Value.tuple #[.pointer (some ⟨bm, 0, none⟩), .bool true] ∧ Sat w w' [mchO bm s fuel (runS (PL l) shared f arg fuel)]) → ∃ bm : Nat, r = Value.tuple #[.pointer (some ⟨bm, 0, none⟩), .bool true] ∧ Sat w0 w' (mchO bm s fuel (runS (PL l) shared f arg fuel) :: Rs) := by
  rintro r w' ⟨bm, rfl, h⟩
  exact ⟨bm, rfl, hS.comp h⟩
 cases hres : callS (PL l) fuel 8 (MS.start shared) f arg none 0 false with
 | done m1 f1 o1 =>
  refine (ranFrom_done w s l f arg fuel shared hr.len hr.rd hr.le ha m1 f1 o1 hres).mono fun e w' h => ?_
  cases e with
  | returned r => exact key r w' h
  | _ => exact h.elim
 | spent m1 =>
  refine (ranFrom_spent w s l f arg fuel shared hr.len hr.rd hr.le ha m1 hres).mono fun e w' h => ?_
  cases e with
  | returned r => exact key r w' h
  | _ => exact h.elim
theorem ranFrom_no (hS : Sat w0 w Rs) (hr : RdP w s l) (ha : askB l f arg fuel = false) :
  Calls Try.prog 63 #[.agg #[.slice s.A s.n s.c], .int .i64 f, .int .i64 arg, .int .i64 fuel, .int .i64 shared] w (Ret fun r w' => r = .tuple #[.pointer none, .bool false] ∧ Sat w0 w' Rs) := by
 refine (ranFrom_bad w s l f arg fuel shared hr.len hr.rd hr.le ha).mono fun e w' h => ?_
 cases e with
 | returned r => exact ⟨h.1, hS.comp (Ps := []) h.2⟩
 | _ => exact h.elim
theorem lift0 {F : Nat} {args : Array Value} {φ : Value → Prop} (hS : Sat w0 w Rs) (h : Calls Try.prog F args w (Ret fun r w' => φ r ∧ Sat w w' [])) : Calls Try.prog F args w (Ret fun r w' => φ r ∧ Sat w0 w' Rs) := by
 refine h.mono fun e w' h => ?_
 cases e with
 | returned r => exact ⟨h.1, hS.comp (Ps := []) h.2⟩
 | _ => exact h.elim
theorem ask_parts (ha : askB l f arg fuel = true) : ProgOk (PL l) ∧ (0 ≤ f ∧ f < (PL l).length) ∧ (-32768 ≤ arg ∧ arg ≤ 32767) ∧ (0 ≤ fuel ∧ fuel ≤ 200) := by
 simp only [askB, Bool.and_eq_true] at ha
 obtain ⟨⟨⟨h1, h2⟩, h3⟩, h4⟩ := ha
 simp only [inB, numB, Bool.and_eq_true, decide_eq_true_eq] at h2 h3 h4
 exact ⟨progOk_of h1, by rw [PL_length]; omega, h3, h4⟩
theorem run_sat (hS : Sat w0 w Rs) (hr : RdP w s l) (ha : askB l f arg fuel = true) :
  Calls Try.prog 42 #[.agg #[.slice s.A s.n s.c], .int .i64 f, .int .i64 arg, .int .i64 fuel] w (Ret fun r w' => ∃ tr : Sl, r = oG (rn l f arg fuel).k (rn l f arg fuel).v tr (rn l f arg fuel).m.made ∧ Sat w0 w' (rE tr (rn l f arg fuel).m.trace :: Rs)) := by
 obtain ⟨hP, h1, h2, h3⟩ := ask_parts ha
 obtain ⟨sbs, hPr⟩ := rdProg_of (c := s.c) hr.rd
 rw [← hr.len] at hPr
 refine (q_run hP (Sat.start w) h1.1 h1.2 h2 h3 (hPr.keeps [])).mono fun e w' h => ?_
 cases e with
 | returned r =>
  obtain ⟨tr, h4, h5⟩ := h
  exact ⟨tr, h4, hS.comp h5⟩
 | _ => exact h.elim
theorem ask_sat (hS : Sat w0 w Rs) (hr : RdP w s l) (hf : Fits l) :
  Calls Try.prog 40 #[.agg #[.slice s.A s.n s.c], .int .i64 f, .int .i64 arg, .int .i64 fuel] w (Ret fun r w' => r = .bool (askB l f arg fuel) ∧ Sat w0 w' Rs) := by
 obtain ⟨sbs, hPr⟩ := rdProg_of (c := s.c) hr.rd
 rw [← hr.len] at hPr
 refine (q_ask (Sat.start w) (by rw [PL_length]; have := hf.len; omega) (hPr.keeps [])).mono fun e w' h => ?_
 cases e with
 | returned r =>
  refine ⟨?_, hS.comp (Ps := []) h.2⟩
  rw [h.1, progQ_PL, hr.len]
  rfl
 | _ => exact h.elim
theorem eqP_sat {t : Sl} (hS : Sat w0 w Rs) (hr : RdP w s l) (ht : RdP w t l) (hf : Fits l) :
    Calls Try.prog 17 #[.agg #[.slice s.A s.n s.c], .agg #[.slice t.A t.n t.c]] w (Ret fun r w' => r = .bool true ∧ Sat w0 w' Rs) := by
  obtain ⟨sbs1, h1⟩ := rdProg_of (c := s.c) hr.rd
  obtain ⟨sbs2, h2⟩ := rdProg_of (c := t.c) ht.rd
  rw [← hr.len] at h1
  rw [← ht.len] at h2
  refine (eq_prog (Sat.start w) (h1.keeps []) (h2.keeps []) (by rw [PL_length]; have := hf.len; omega) (fun z hz => ?_)).mono fun e w' h => ?_
  · obtain ⟨b, hb, rfl⟩ := List.mem_map.1 hz
    rw [List.length_map];have := hf.each b hb
    omega
  · cases e with
    | returned r => exact ⟨h.1, hS.comp (Ps := []) h.2⟩
    | _ => exact h.elim
end
theorem code43 : Try.f43.body = some (Code.seq (cr Try.f43 0 false) (Code.seq (cr Try.f43 1 false) Code.ret)) := by kernel_rfl
theorem ran_sat0 {w0 : World} {s : Sl} {l : List (List ST)} {f arg fuel : Int} (hr : RdP w0 s l) (hask : askB l f arg fuel = true) :
  Calls Try.prog 43 #[.agg #[.slice s.A s.n s.c], iv f, iv arg, iv fuel] w0 (Ret fun r w' => ∃ bm : Nat, r = .tuple #[.pointer (some ⟨bm, 0, none⟩), .bool true] ∧ Sat w0 w' [mchO bm s fuel (rn l f arg fuel)]) := by
 have hS : Sat w0 w0 [] := Sat.start w0
 refine enter (n := 17) Try.func43 code43 (by kernel_rfl) (Nat.le_of_ble_eq_true rfl) (fun a ha => ?_)
 replace ha : Has 17 [(0, .agg #[.slice s.A s.n s.c]), (1, iv f), (2, iv arg), (3, iv fuel)] a := ha
 refine wp_seq (jX [0, 1, 2] (jZ (qJ 4 [.slice s.A s.n s.c] 40 (ptr · 0) ha hS fun b1 w a hb2 hS ha => ?_)))
 refine jQ [(1, 8, .pointer none), (2, 9, .bool false)] ha fun a ha => ?_
 refine jY (jJ (wp_seq (jX [0, 1, 2, 3, 4, 5, 6, 7, 8] (xG 10 ha (hS.blk 0 rfl) fun a ha => ?_))))
 refine jQ [(1, 11, iv f), (2, 12, iv arg), (3, 13, iv fuel)] ha fun a ha => ?_
 refine jZ (qG 14 (vs := [.agg #[.slice s.A s.n s.c], iv f, iv arg, iv fuel, iv 0]) ha (ranFrom_sat hS (hr.sat hS) hask) fun v3 w a hp4 ha => ?_)
 obtain ⟨bm1, rfl, hS⟩ := hp4
 refine jQ [(5, 15, ptr bm1 0), (6, 16, .bool true), (7, 8, ptr bm1 0), (8, 9, .bool true)] ha fun a ha => ?_
 refine jY (jJ (wp_ret (yH ha (by kernel_rfl) (yJ (t := 8) ha rfl) (yJ (t := 9) ha rfl) ?_)))
 exact ⟨bm1, rfl, hS.pickN 2 [0]⟩
theorem ran_no0 {w0 : World} {s : Sl} {l : List (List ST)} {f arg fuel : Int} (hr : RdP w0 s l) (hask : askB l f arg fuel = false) :
  Calls Try.prog 43 #[.agg #[.slice s.A s.n s.c], iv f, iv arg, iv fuel] w0 (Ret fun r w' => r = .tuple #[.pointer none, .bool false] ∧ Sat w0 w' []) := by
 have hS : Sat w0 w0 [] := Sat.start w0
 refine enter (n := 17) Try.func43 code43 (by kernel_rfl) (Nat.le_of_ble_eq_true rfl) (fun a ha => ?_)
 replace ha : Has 17 [(0, .agg #[.slice s.A s.n s.c]), (1, iv f), (2, iv arg), (3, iv fuel)] a := ha
 refine wp_seq (jX [0, 1, 2] (jZ (qJ 4 [.slice s.A s.n s.c] 40 (ptr · 0) ha hS fun b1 w a hb2 hS ha => ?_)))
 refine jQ [(1, 8, .pointer none), (2, 9, .bool false)] ha fun a ha => ?_
 refine jY (jJ (wp_seq (jX [0, 1, 2, 3, 4, 5, 6, 7, 8] (xG 10 ha (hS.blk 0 rfl) fun a ha => ?_))))
 refine jQ [(1, 11, iv f), (2, 12, iv arg), (3, 13, iv fuel)] ha fun a ha => ?_
 refine jZ (qG 14 (vs := [.agg #[.slice s.A s.n s.c], iv f, iv arg, iv fuel, iv 0]) ha (ranFrom_no hS (hr.sat hS) hask) fun v3 w a hp4 ha => ?_)
 obtain ⟨rfl, hS⟩ := hp4
 refine jQ [(5, 15, .pointer none), (6, 16, .bool false), (7, 8, .pointer none), (8, 9, .bool false)] ha fun a ha => ?_
 refine jY (jJ (wp_ret (yH ha (by kernel_rfl) (yJ (t := 8) ha rfl) (yJ (t := 9) ha rfl) ?_)))
 exact ⟨rfl, Sat.rest [_] hS⟩
theorem ran_sat {w0 w : World} {Rs : List Asn} {s : Sl} {l : List (List ST)} {f arg fuel : Int} (hS : Sat w0 w Rs) (hr : RdP w s l) (hask : askB l f arg fuel = true) :
  Calls Try.prog 43 #[.agg #[.slice s.A s.n s.c], iv f, iv arg, iv fuel] w (Ret fun r w' => ∃ bm : Nat, r = .tuple #[.pointer (some ⟨bm, 0, none⟩), .bool true] ∧ Sat w0 w' (mchO bm s fuel (rn l f arg fuel) :: Rs)) :=
 (ran_sat0 hr hask).mono fun e w' h => by
  cases e with
  | returned r => obtain ⟨bm, h1, h2⟩ := h; exact ⟨bm, h1, hS.comp h2⟩
  | _ => exact h.elim
theorem ran_no {w0 w : World} {Rs : List Asn} {s : Sl} {l : List (List ST)} {f arg fuel : Int} (hS : Sat w0 w Rs) (hr : RdP w s l) (hask : askB l f arg fuel = false) :
  Calls Try.prog 43 #[.agg #[.slice s.A s.n s.c], iv f, iv arg, iv fuel] w (Ret fun r w' => r = .tuple #[.pointer none, .bool false] ∧ Sat w0 w' Rs) := lift0 hS (ran_no0 hr hask)
end Go.Proofs.Ytcbijhgepdedpaa.G
namespace Go.Proofs.Ytcbijhgepdedpaa.SX
open Go.RowKit Go.Proofs.Ytcbijhgepdedpaa.G Go.Proofs.YtcbijhgepdedpaaW.PrintWords Go.Proofs.YtcbijhgepdedpaaW.PrintLast Go.Proofs.YtcbijhgepdedpaaW.PrintMore
def Brief (m : MS) : Prop := m.trace.length ≤ 1000 ∧ 0 ≤ m.made ∧ m.made ≤ 200
theorem OkM.brief {fuel : Int} {m : MS} {x : Nat} (h : OkM fuel m x) : Brief m := by
 have := h.bnd
 have := h.made0
 have := h.made1
 have := h.fuel1
 unfold Brief
 omega
def CallSp (n : Nat) (fuel : Int) (call : CallT) : Prop := ∀ (m : MS) (fn arg : Int) (p : Option FS) (o : Int) (dfr : Bool) (m' : MS) (x : Nat), OkM fuel m (x + 2) → 0 ≤ fn → fn < n → call m fn arg p o dfr = .spent m' → Brief m'
def RB.goes : RB → Bool
 | .spent _ => false
 | .go _ _ _ _ => true
theorem stepS_go {call : CallT} {m : MS} {f : FS} {p : Option FS} {o : Int} {s : Stp} (hk : ¬ s.k = 4) : (stepS call m f p o s).goes = true := by
 unfold stepS
 by_cases h1 : s.k = 1
 · rw [if_pos h1]; rfl
 rw [if_neg h1]
 by_cases h2 : s.k = 2
 · rw [if_pos h2]; rfl
 rw [if_neg h2]
 by_cases h3 : s.k = 3
 · rw [if_pos h3]; rfl
 rw [if_neg h3]
 by_cases h4 : s.k = 4
 · exact absurd h4 hk
 rw [if_neg h4]
 by_cases h5 : s.k = 5
 · rw [if_pos h5]; rfl
 rw [if_neg h5]
 by_cases h6 : s.k = 6
 · rw [if_pos h6]; rfl
 rw [if_neg h6]
 by_cases h7 : s.k = 7
 · rw [if_pos h7]; rfl
 rw [if_neg h7]
 by_cases h8 : s.k = 8
 · rw [if_pos h8]; rfl
 rw [if_neg h8]
 by_cases h9 : s.k = 9
 · rw [if_pos h9]; rfl
 rw [if_neg h9]
 by_cases h10 : s.k = 10
 · rw [if_pos h10]; rfl
 rw [if_neg h10]
 by_cases h12 : s.k = 12
 · rw [if_pos h12]; rfl
 rw [if_neg h12]
 by_cases h13 : s.k = 13
 · rw [if_pos h13]; rfl
 rw [if_neg h13]
 rfl
theorem stepS_sp {n : Nat} {fuel : Int} {call : CallT} (hc : CallSp n fuel call) {m : MS} {f : FS} {p : Option FS} {o : Int} {s : Stp} {m' : MS} {x : Nat}
    (hs : StpOk n s) (hm : OkM fuel m (x + 3)) (h : stepS call m f p o s = .spent m') : Brief m' := by
  unfold stepS at h
  by_cases hk4 : s.k = 4
  · have hf := hs.f (.inl hk4)
    rw [if_neg (by omega), if_neg (by omega), if_neg (by omega), if_pos hk4] at h
    split at h
    · rename_i m1 hcall
      simp only [RB.spent.injEq] at h;subst h;exact hc _ _ _ _ _ _ _ (x + 1) hm hf.1 hf.2 hcall
    · dsimp only at h
      split at h
      · cases h
      · cases h
  · exfalso
    have h9 := stepS_go (call := call) (m := m) (f := f) (p := p) (o := o) hk4;unfold stepS at h9;rw [h] at h9;cases h9
theorem bodyS_sp {n : Nat} {fuel : Int} {call : CallT} (hc : CallOk n fuel call) (hcs : CallSp n fuel call) {steps : List Stp} (hs : ∀ s ∈ steps, StpOk n s) {p : Option FS} {x : Nat} : ∀ (k : Nat) (m : MS) (f : FS) (o : Int) (at_ : Nat) {m' : MS},
    OkM fuel m (2 * f.runs.length + x) → OkF n m f → bodyS fuel call steps p k m f o at_ = .spent m' → Brief m' := by
  intro k
  induction k with
  | zero => intro m f o at_ m' hm _ h; simp only [bodyS, R3.spent.injEq] at h; subst h; exact hm.brief
  | succ k ih =>
    intro m f o at_ m' hm hf h;simp only [bodyS] at h
    split at h
    · cases h
    · rename_i s hst
      have hso := hs s (List.mem_of_getElem? hst)
      split at h
      · simp only [R3.spent.injEq] at h; subst h; exact hm.brief
      · rename_i hne
        have hm1 := hm.step hne f.fn at_;have hf1 := hf.grew (Grew.step m f.fn at_)
        split at h
        · exact ih _ _ _ _ (hm1.less (by omega)) hf1 h
        · split at h
          · rename_i m2 hst
            simp only [R3.spent.injEq] at h;subst h;exact stepS_sp hcs hso hm1 hst
          · cases h
          · rename_i hst
            obtain ⟨h1, h2, h3⟩ := stepS_ok hc hso hm1 hf1 hst;exact ih _ _ _ _ h1 h3 h
theorem runsS_sp {n : Nat} {fuel : Int} {call : CallT} (hc : CallOk n fuel call) (hcs : CallSp n fuel call) {p : Option FS} {x : Nat} : ∀ (k : Nat) (m : MS) (f : FS) (o : Int) {m' : MS}, f.runs.length = k →
    OkM fuel m (2 * f.runs.length + x) → OkF n m f → runsS call k m f p o = .spent m' → Brief m' := by
  intro k
  induction k with
  | zero => intro m f o m' hk hm hf h; simp only [runsS] at h; cases h
  | succ k ih =>
    intro m f o m' hk hm hf h;simp only [runsS] at h
    split at h
    · cases h
    · rename_i z hz
      have hmem := List.mem_of_getLast? hz;have hfn := hf.runs z hmem;have hdl : f.runs.dropLast.length = k := by rw [List.length_dropLast]; omega
      split at h
      · rename_i m1 hcall
        simp only [R3.spent.injEq] at h;subst h;exact hcs _ _ _ _ _ _ _ (2 * k + x) (hm.less (by omega)) hfn.1 hfn.2 hcall
      · rename_i m1 d o1 hcall
        obtain ⟨h1, h2, h3⟩ := hc _ _ _ _ _ _ _ _ _ (2 * k + x) (hm.less (by omega)) hfn.1 hfn.2 hcall
        have hf1 : OkF n m1 { f with runs := f.runs.dropLast, r1 := o1 } :=
          have g := hf.grew h2
          ⟨g.id0, g.id1, g.fn0, g.fn1, g.en, g.pan, fun z hz => g.runs z (List.dropLast_subset _ hz)⟩
        obtain ⟨g1, g2, g3⟩ := behind_ok h1 hf1 h3;have hr : (yZ { f with runs := f.runs.dropLast, r1 := o1 } d).runs = f.runs.dropLast := by unfold yZ; (repeat' split) <;> rfl
        exact ih _ _ _ (by rw [hr]; exact hdl) (by rw [hr, hdl]; exact g1) g3 h
theorem callS_sp {P : List (List Stp)} (hP : ProgOk P) (fuel : Int) : ∀ d, CallSp P.length fuel (callS P fuel d) := by
  intro d
  induction d with
  | zero => intro m fn arg p o dfr m' x hm _ _ h; simp only [callS, R3.spent.injEq] at h; subst h; exact hm.brief
  | succ d ih =>
    intro m fn arg p o dfr m' x hm h0 h1 h;have ihok := callS_ok hP fuel d;simp only [callS] at h
    have hsteps : ∀ s ∈ P.getD fn.toNat [], StpOk P.length s := by
      have hlt : fn.toNat < P.length := by omega
      rw [List.getD_eq_getElem?_getD, List.getElem?_eq_getElem hlt];exact hP.steps _ (List.getElem_mem hlt)
    have hme : OkM fuel (m.enter fn arg (parId p) dfr) (x + 1) := OkM.enter hm _ _ _ _
    have hfe : OkF P.length (m.enter fn arg (parId p) dfr) (m.frame fn arg dfr) := by
      refine ⟨?_, ?_, h0, h1, .inl rfl, fun e => by simp [MS.frame] at e, fun z hz => by simp [MS.frame] at hz⟩
      · simp only [MS.frame]; omega
      · simp only [MS.frame, MS.enter, MS.tell, List.length_append, List.length_cons, List.length_nil]; omega
    split at h
    · rename_i m1 hb
      simp only [R3.spent.injEq] at h;subst h;exact bodyS_sp (x := x + 1) ihok ih hsteps _ _ _ _ _ (by simpa [MS.frame] using hme) hfe hb
    · rename_i m1 f1 o1 hb
      obtain ⟨h2, h3, h4⟩ := bodyS_ok (x := x + 1) ihok hsteps _ _ _ _ _ (by simpa [MS.frame] using hme) hfe hb
      split at h
      · rename_i m2 hr
        simp only [R3.spent.injEq] at h;subst h;exact runsS_sp ihok ih _ _ _ _ rfl h2 h4 hr
      · cases h
theorem runOf_tr (m : MS) (f : FS) (o : Int) : (runOf (.done m f o)).m.trace = m.trace := by
 unfold runOf
 dsimp only
 split <;> rfl
theorem runOf_made (m : MS) (f : FS) (o : Int) : (runOf (.done m f o)).m.made = m.made := by
 unfold runOf
 dsimp only
 split <;> rfl
theorem runOf_Brief {P : List (List Stp)} (hP : ProgOk P) {fuel shared f arg : Int} (h0 : 0 ≤ f) (h1 : f < P.length) (hf : 0 ≤ fuel ∧ fuel ≤ 200) : Brief (runS P shared f arg fuel).m := by
 unfold runS
 cases hr : callS P fuel 8 (MS.start shared) f arg none 0 false with
 | spent m => exact callS_sp hP fuel 8 _ _ _ _ _ _ _ 10 (start_ok shared hf.1 hf.2) h0 h1 hr
 | done m1 f1 o1 => unfold Brief; rw [runOf_tr, runOf_made]; exact (callS_ok hP fuel 8 _ _ _ _ _ _ _ _ _ 10 (start_ok shared hf.1 hf.2) h0 h1 hr).1.brief
theorem runOf_brief {P : List (List Stp)} (hP : ProgOk P) {fuel shared f arg : Int} (h0 : 0 ≤ f) (h1 : f < P.length) (hf : 0 ≤ fuel ∧ fuel ≤ 200) : (runS P shared f arg fuel).m.trace.length ≤ 1000 := (runOf_Brief hP h0 h1 hf).1
def R3.m : R3 → MS
 | .spent m => m
 | .done m _ _ => m
def RB.m : RB → MS
 | .spent m => m
 | .go m _ _ _ => m
structure RS where
 calls : List (Bool × Int)
 pans : List (Int × Int × Int)
 before : List Int
def callAt (r : RS) (j : Nat) : Bool × Int := r.calls.getD (r.calls.length - j) (false, -1)
def putAt (r : RS) (j : Nat) (on : Int) : RS := { r with calls := r.calls.set (r.calls.length - j) ((callAt r j).1, on) }
def fateR (r : RS) (k fate : Int) : RS := { r with pans := r.pans.modify k.toNat fun z => (z.1, z.2.1, fate) }
def popR (r : RS) : RS := { r with calls := r.calls.take (r.calls.length - 1) }
def unwR (r : RS) : RS :=
 if (popR r).calls.length = 0 then fateR (popR r) (callAt r 1).2 3
 else if (callAt r 1).1 = true ∧ (callAt (popR r) 1).2 ≥ 0 then putAt { fateR (popR r) (callAt (popR r) 1).2 2 with before := r.before.set (callAt r 1).2.toNat (callAt (popR r) 1).2 } 1 (callAt r 1).2
 else putAt (popR r) 1 (callAt r 1).2
def exR (r : RS) : RS :=
 if (popR r).calls.length = 0 then popR r
 else if (callAt r 1).1 = true ∧ (callAt (popR r) 1).2 ≥ 0 then putAt (fateR (popR r) (callAt (popR r) 1).2 4) 1 (-1)
 else putAt (popR r) 1 (-1)
def panR (r : RS) (fn v : Int) : RS := putAt { r with pans := r.pans ++ [(fn, v, 0)], before := r.before ++ [-1] } 1 (r.pans.length : Int)
def recR (r : RS) : RS := putAt (fateR r (callAt r 2).2 1) 2 (-1)
def stepR (r : RS) (e : Int × Int × Int) : RS :=
 if e.1 = 1 ∨ e.1 = 3 then { r with calls := r.calls ++ [(decide (e.1 = 3), -1)] }
 else if e.1 = 5 then panR r e.2.1 e.2.2
 else if e.1 = 6 then recR r
 else if e.1 = 7 then popR r
 else if e.1 = 8 then unwR r
 else if e.1 = 9 then exR r
 else r
def R4 (t : List (Int × Int × Int)) : RS := t.foldl stepR ⟨[], [], []⟩
theorem R4_snoc (t : List (Int × Int × Int)) (e : Int × Int × Int) : R4 (t ++ [e]) = stepR (R4 t) e := by unfold R4; rw [List.foldl_append]; rfl
theorem R4_next {t : List (Int × Int × Int)} {i : Nat} {e : Int × Int × Int} (h : t[i]? = some e) : R4 (t.take (i + 1)) = stepR (R4 (t.take i)) e := by rw [List.take_add_one, h]; exact R4_snoc _ _
structure Ok4 (r : RS) (e : Int × Int × Int) : Prop where
 p : e.1 = 5 → 1 ≤ r.calls.length
 r_ : e.1 = 6 → 2 ≤ r.calls.length ∧ 0 ≤ (callAt r 2).2 ∧ (callAt r 2).2 < r.pans.length
 t : e.1 = 7 → 1 ≤ r.calls.length
 u : e.1 = 8 → 1 ≤ r.calls.length ∧ 0 ≤ (callAt r 1).2 ∧ (callAt r 1).2 < r.pans.length ∧ (2 ≤ r.calls.length → (callAt (popR r) 1).2 < r.pans.length)
 x : e.1 = 9 → 1 ≤ r.calls.length ∧ (2 ≤ r.calls.length → (callAt (popR r) 1).2 < r.pans.length)
section
variable {σ : List (Bool × Int)} {x y : Bool} {o on : Int} {p : List (Int × Int × Int)} {b : List Int}
theorem last_at (z : Bool × Int) : callAt ⟨σ ++ [z], p, b⟩ 1 = z := by
 unfold callAt; simp
theorem last_at2 (z z' : Bool × Int) : callAt ⟨σ ++ [z] ++ [z'], p, b⟩ 2 = z := by
 unfold callAt
 simp only [List.length_append, List.length_cons, List.length_nil]
 rw [List.getD_eq_getElem?_getD, List.getElem?_append_left (by simp), List.getElem?_append_right (by omega), show σ.length + (0 + 1) + (0 + 1) - 2 - σ.length = 0 by omega]; rfl
theorem pop_at (z : Bool × Int) : popR ⟨σ ++ [z], p, b⟩ = ⟨σ, p, b⟩ := by unfold popR; simp
theorem put_at1 (z : Bool × Int) : putAt ⟨σ ++ [z], p, b⟩ 1 o = ⟨σ ++ [(z.1, o)], p, b⟩ := by
 unfold putAt; rw [last_at]; simp only [RS.mk.injEq, and_true]
 rw [List.set_append_right _ _ (by simp)]; simp
theorem put_at2 (z z' : Bool × Int) : putAt ⟨σ ++ [z] ++ [z'], p, b⟩ 2 o = ⟨σ ++ [(z.1, o)] ++ [z'], p, b⟩ := by
 unfold putAt; rw [last_at2]; simp only [RS.mk.injEq, and_true]
 rw [List.set_append_left _ _ (by simp), List.set_append_right _ _ (by simp)]; simp
theorem sR_call {k fn v : Int} (h : k = 1 ∨ k = 3) : stepR ⟨σ, p, b⟩ (k, fn, v) = ⟨σ ++ [(decide (k = 3), -1)], p, b⟩ := if_pos h
theorem sR_panic {fn v : Int} : stepR ⟨σ ++ [(x, o)], p, b⟩ (5, fn, v) = ⟨σ ++ [(x, (p.length : Int))], p ++ [(fn, v, 0)], b ++ [-1]⟩ := by
 unfold stepR; rw [if_neg (by simp), if_pos rfl]; unfold panR; rw [put_at1]
theorem sR_rec {fn v : Int} : stepR ⟨σ ++ [(y, on)] ++ [(x, o)], p, b⟩ (6, fn, v) = ⟨σ ++ [(y, -1)] ++ [(x, o)], p.modify on.toNat fun z => (z.1, z.2.1, 1), b⟩ := by
 unfold stepR; rw [if_neg (by simp), if_neg (by simp), if_pos rfl]; unfold recR; rw [last_at2]; exact put_at2 _ _
theorem sR_ret {fn v : Int} (z : Bool × Int) : stepR ⟨σ ++ [z], p, b⟩ (7, fn, v) = ⟨σ, p, b⟩ := by
 unfold stepR; rw [if_neg (by simp), if_neg (by simp), if_neg (by simp), if_pos rfl]; exact pop_at z
theorem sR_u {fn v : Int} (r : RS) : stepR r (8, fn, v) = unwR r := by
 unfold stepR; rw [if_neg (by simp), if_neg (by simp), if_neg (by simp), if_neg (by simp), if_pos rfl]
theorem sR_x {fn v : Int} (r : RS) : stepR r (9, fn, v) = exR r := by
 unfold stepR; rw [if_neg (by simp), if_neg (by simp), if_neg (by simp), if_neg (by simp), if_neg (by simp), if_pos rfl]
theorem sR_unw0 {fn v : Int} : stepR ⟨[(x, o)], p, b⟩ (8, fn, v) = ⟨[], p.modify o.toNat fun z => (z.1, z.2.1, 3), b⟩ := by
 rw [sR_u]; rfl
theorem ne0 (z : Bool × Int) : ¬ (popR ⟨σ ++ [(y, on)] ++ [z], p, b⟩).calls.length = 0 := by rw [pop_at]; simp
theorem sR_unw1 {fn v : Int} (h : 0 ≤ on) : stepR ⟨σ ++ [(y, on)] ++ [(true, o)], p, b⟩ (8, fn, v) = ⟨σ ++ [(y, o)], p.modify on.toNat fun z => (z.1, z.2.1, 2), b.set o.toNat on⟩ := by
 rw [sR_u, unwR, if_neg (ne0 _), pop_at, last_at, last_at, if_pos ⟨rfl, h⟩]
 exact put_at1 _
theorem sR_unw2 {fn v : Int} (h : ¬ (x = true ∧ on ≥ 0)) : stepR ⟨σ ++ [(y, on)] ++ [(x, o)], p, b⟩ (8, fn, v) = ⟨σ ++ [(y, o)], p, b⟩ := by
 rw [sR_u, unwR, if_neg (ne0 _), pop_at, last_at, last_at, if_neg h]
 exact put_at1 _
theorem sR_ex0 {fn v : Int} : stepR ⟨[(x, o)], p, b⟩ (9, fn, v) = ⟨[], p, b⟩ := by rw [sR_x]; rfl
theorem sR_ex1 {fn v : Int} (h : 0 ≤ on) : stepR ⟨σ ++ [(y, on)] ++ [(true, o)], p, b⟩ (9, fn, v) = ⟨σ ++ [(y, -1)], p.modify on.toNat fun z => (z.1, z.2.1, 4), b⟩ := by
 rw [sR_x, exR, if_neg (ne0 _), pop_at, last_at, last_at, if_pos ⟨rfl, h⟩]
 exact put_at1 _
theorem sR_ex2 {fn v : Int} (h : ¬ (x = true ∧ on ≥ 0)) : stepR ⟨σ ++ [(y, on)] ++ [(x, o)], p, b⟩ (9, fn, v) = ⟨σ ++ [(y, -1)], p, b⟩ := by
 rw [sR_x, exR, if_neg (ne0 _), pop_at, last_at, last_at, if_neg h]
 exact put_at1 _
theorem sR_no {k fn v : Int} (h : k = 2 ∨ k = 4) (r : RS) : stepR r (k, fn, v) = r := by
 unfold stepR
 rw [if_neg (by dsimp only; omega), if_neg (by dsimp only; omega), if_neg (by dsimp only; omega), if_neg (by dsimp only; omega), if_neg (by dsimp only; omega), if_neg (by dsimp only; omega)]
end
theorem mod_same {α β : Type} {h : α → β} {g : α → α} (hg : ∀ x, h (g x) = h x) (l : List α) (i : Nat) : (l.modify i g).map h = l.map h := by
 refine List.ext_getElem? fun k => ?_
 rw [List.getElem?_map, List.getElem?_map, List.getElem?_modify]
 cases l[k]? with
 | none => rfl
 | some x =>
  by_cases e : i = k
  · simp [e, hg]
  · simp [e]
theorem mod_set {α β : Type} {h : α → β} {g : α → α} {v : β} (hg : ∀ x, h (g x) = v) (l : List α) (i : Nat) : (l.modify i g).map h = (l.map h).set i v := by
  refine List.ext_getElem? fun k => ?_
  rw [List.getElem?_map, List.getElem?_modify, List.getElem?_set, List.getElem?_map]
  by_cases e : i = k
  · subst e
    rw [if_pos rfl, List.length_map];cases hx : l[i]? with
    | none => rw [if_neg (by have := List.getElem?_eq_none_iff.1 hx; omega)]; rfl
    | some x => rw [if_pos (List.getElem?_eq_some_iff.1 hx).1]; simp [hg]
  · rw [if_neg e]
    cases l[k]? <;> simp [e]
theorem mod_all {α : Type} {P : α → Prop} {g : α → α} (hg : ∀ x, P x → P (g x)) {l : List α} (h : ∀ x ∈ l, P x) (i : Nat) : ∀ x ∈ l.modify i g, P x := by
 intro x hx
 obtain ⟨k, hk⟩ := List.getElem?_of_mem hx
 rw [List.getElem?_modify] at hk
 cases hy : l[k]? with
 | none => rw [hy] at hk; cases hk
 | some y =>
  rw [hy] at hk
  have hyl := h y (List.mem_of_getElem? hy)
  by_cases e : i = k
  · simp [e] at hk; rw [← hk]; exact hg y hyl
  · simp [e] at hk; rw [← hk]; exact hyl
def lastsM (m : MS) : List Int := m.panics.map (·.last)
structure Rd (m : MS) (σ : List (Bool × Int)) (ls : List Int) : Prop where
 st : ∃ ps : List (Int × Int × Int), R4 m.trace = ⟨σ, ps, ls⟩ ∧ ps.map (·.2.1) = m.panics.map (·.value) ∧ ∀ z ∈ ps, z.2.2 ≠ 3
 ok : ∀ (i : Nat) e, m.trace[i]? = some e → Ok4 (R4 (m.trace.take i)) e
structure MOk (m : MS) : Prop where
 la : ∀ (k : Nat) x, m.panics[k]? = some x → -1 ≤ x.last ∧ x.last < (k : Int)
 fa : ∀ x ∈ m.panics, x.fate ≠ 3
theorem ok_snoc {t : List (Int × Int × Int)} {e : Int × Int × Int} (h : ∀ (i : Nat) e, t[i]? = some e → Ok4 (R4 (t.take i)) e) (he : Ok4 (R4 t) e) : ∀ (i : Nat) e', (t ++ [e])[i]? = some e' → Ok4 (R4 ((t ++ [e]).take i)) e' := by
  intro i e' hi
  by_cases hlt : i < t.length
  · rw [List.getElem?_append_left hlt] at hi
    rw [List.take_append_of_le_length (by omega)];exact h i e' hi
  · rw [List.getElem?_append_right (by omega)] at hi
    have h0 : i - t.length = 0 := by
      have := (List.getElem?_eq_some_iff.1 hi).1
      simp at this; omega
    rw [h0] at hi;obtain rfl := Option.some.inj hi;rw [show i = t.length by omega, List.take_left']
    · exact he
    · rfl
theorem ok_not {r : RS} {e : Int × Int × Int} (h : e.1 ≠ 5 ∧ e.1 ≠ 6 ∧ e.1 ≠ 7 ∧ e.1 ≠ 8 ∧ e.1 ≠ 9) : Ok4 r e := ⟨fun k => absurd k h.1, fun k => absurd k h.2.1, fun k => absurd k h.2.2.1, fun k => absurd k h.2.2.2.1, fun k => absurd k h.2.2.2.2⟩
theorem Rd.as {m m' : MS} {σ : List (Bool × Int)} {ls : List Int} (h : Rd m σ ls) (ht : m'.trace = m.trace) (hv : m'.panics.map (·.value) = m.panics.map (·.value)) : Rd m' σ ls := ⟨by rw [ht, hv]; exact h.st, by rw [ht]; exact h.ok⟩
theorem Rd.no {m m' : MS} {σ : List (Bool × Int)} {ls : List Int} {k fn v : Int} (h : Rd m σ ls) (hk : k = 2 ∨ k = 4) (ht : m'.trace = m.trace ++ [(k, fn, v)]) (hv : m'.panics.map (·.value) = m.panics.map (·.value)) : Rd m' σ ls := by
 obtain ⟨ps, h1, h2, h3⟩ := h.st
 refine ⟨⟨ps, by rw [ht, R4_snoc, h1, sR_no hk], by rw [hv]; exact h2, h3⟩, by rw [ht]; exact ok_snoc h.ok (ok_not (by dsimp only; omega))⟩
theorem Rd.call {m m' : MS} {σ : List (Bool × Int)} {ls : List Int} {k fn v : Int} (h : Rd m σ ls) (hk : k = 1 ∨ k = 3) (ht : m'.trace = m.trace ++ [(k, fn, v)]) (hv : m'.panics.map (·.value) = m.panics.map (·.value)) : Rd m' (σ ++ [(decide (k = 3), -1)]) ls := by
 obtain ⟨ps, h1, h2, h3⟩ := h.st
 refine ⟨⟨ps, by rw [ht, R4_snoc, h1, sR_call hk], by rw [hv]; exact h2, h3⟩, by rw [ht]; exact ok_snoc h.ok (ok_not (by dsimp only; omega))⟩
theorem Rd.panic {m m' : MS} {σ : List (Bool × Int)} {x : Bool} {o : Int} {ls : List Int} {fn v : Int} (h : Rd m (σ ++ [(x, o)]) ls) (ht : m'.trace = m.trace ++ [(5, fn, v)]) (hv : m'.panics.map (·.value) = m.panics.map (·.value) ++ [v]) : Rd m' (σ ++ [(x, (m.panics.length : Int))]) (ls ++ [-1]) := by
 obtain ⟨ps, h1, h2, h3⟩ := h.st
 have hl : ps.length = m.panics.length := by have := congrArg List.length h2; simpa using this
 refine ⟨⟨ps ++ [(fn, v, 0)], by rw [ht, R4_snoc, h1, sR_panic, hl], by rw [hv, List.map_append, h2]; rfl, fun z hz => ?_⟩, by rw [ht]; exact ok_snoc h.ok ⟨fun _ => by rw [h1]; simp, fun k => by simp at k, fun k => by simp at k, fun k => by simp at k, fun k => by simp at k⟩⟩
 rcases List.mem_append.1 hz with hz | hz
 · exact h3 z hz
 · rw [List.mem_singleton.1 hz]; simp
theorem pv_mod (ps : List (Int × Int × Int)) (c : Int) (i : Nat) : (ps.modify i fun z => (z.1, z.2.1, c)).map (fun z => z.2.1) = ps.map (fun z => z.2.1) := mod_same (h := fun z : Int × Int × Int => z.2.1) (g := fun z => (z.1, z.2.1, c)) (fun _ => rfl) ps i
theorem no3_mod {ps : List (Int × Int × Int)} (h : ∀ z ∈ ps, z.2.2 ≠ 3) {c : Int} (hc : c ≠ 3) (i : Nat) : ∀ z ∈ ps.modify i (fun z => (z.1, z.2.1, c)), z.2.2 ≠ 3 := mod_all (P := fun z : Int × Int × Int => z.2.2 ≠ 3) (fun _ _ => hc) h i
theorem Rd.recov {m m' : MS} {σ : List (Bool × Int)} {x y : Bool} {o on : Int} {ls : List Int} {fn v : Int} (h : Rd m (σ ++ [(y, on)] ++ [(x, o)]) ls) (hon : 0 ≤ on ∧ on < m.panics.length) (ht : m'.trace = m.trace ++ [(6, fn, v)]) (hv : m'.panics.map (·.value) = m.panics.map (·.value)) : Rd m' (σ ++ [(y, -1)] ++ [(x, o)]) ls := by
 obtain ⟨ps, h1, h2, h3⟩ := h.st
 have hl : ps.length = m.panics.length := by have := congrArg List.length h2; simpa using this
 have hok : ∀ (i : Nat) e, m'.trace[i]? = some e → Ok4 (R4 (m'.trace.take i)) e := by
  rw [ht]
  refine ok_snoc h.ok ⟨fun k => by simp at k, fun _ => ?_, fun k => by simp at k, fun k => by simp at k, fun k => by simp at k⟩
  rw [h1, last_at2]
  exact ⟨by simp, hon.1, by dsimp only; omega⟩
 exact ⟨⟨_, by rw [ht, R4_snoc, h1, sR_rec], by rw [hv, pv_mod]; exact h2, no3_mod h3 (by decide) _⟩, hok⟩
theorem Rd.ret {m m' : MS} {σ : List (Bool × Int)} {z : Bool × Int} {ls : List Int} {fn v : Int} (h : Rd m (σ ++ [z]) ls) (ht : m'.trace = m.trace ++ [(7, fn, v)]) (hv : m'.panics.map (·.value) = m.panics.map (·.value)) : Rd m' σ ls := by
 obtain ⟨ps, h1, h2, h3⟩ := h.st
 refine ⟨⟨ps, by rw [ht, R4_snoc, h1, sR_ret], by rw [hv]; exact h2, h3⟩, by rw [ht]; exact ok_snoc h.ok ⟨fun k => by simp at k, fun k => by simp at k, fun _ => by rw [h1]; simp, fun k => by simp at k, fun k => by simp at k⟩⟩
theorem Rd.unw {m m' : MS} {σ : List (Bool × Int)} {x y : Bool} {o on : Int} {ls : List Int} {fn v : Int} (h : Rd m (σ ++ [(y, on)] ++ [(x, o)]) ls) (ho : 0 ≤ o ∧ o < m.panics.length) (hon : on < m.panics.length) (ht : m'.trace = m.trace ++ [(8, fn, v)]) (hv : m'.panics.map (·.value) = m.panics.map (·.value)) : Rd m' (σ ++ [(y, o)]) (if x = true ∧ on ≥ 0 then ls.set o.toNat on else ls) := by
  obtain ⟨ps, h1, h2, h3⟩ := h.st
  have hl : ps.length = m.panics.length := by have := congrArg List.length h2; simpa using this
  have hok : ∀ (i : Nat) e, m'.trace[i]? = some e → Ok4 (R4 (m'.trace.take i)) e := by
    rw [ht];refine ok_snoc h.ok ⟨fun k => by simp at k, fun k => by simp at k, fun k => by simp at k, fun _ => ?_, fun k => by simp at k⟩;rw [h1, last_at, pop_at, last_at];exact ⟨by simp, ho.1, by dsimp only; omega, fun _ => by dsimp only; omega⟩
  by_cases hc : x = true ∧ on ≥ 0
  · rw [if_pos hc]
    obtain ⟨rfl, h0⟩ := hc;exact ⟨⟨_, by rw [ht, R4_snoc, h1, sR_unw1 h0], by rw [hv, pv_mod]; exact h2, no3_mod h3 (by decide) _⟩, hok⟩
  · rw [if_neg hc]
    exact ⟨⟨ps, by rw [ht, R4_snoc, h1, sR_unw2 hc], by rw [hv]; exact h2, h3⟩, hok⟩
theorem Rd.exi {m m' : MS} {σ : List (Bool × Int)} {x y : Bool} {o on : Int} {ls : List Int} {fn v : Int} (h : Rd m (σ ++ [(y, on)] ++ [(x, o)]) ls) (hon : on < m.panics.length) (ht : m'.trace = m.trace ++ [(9, fn, v)]) (hv : m'.panics.map (·.value) = m.panics.map (·.value)) : Rd m' (σ ++ [(y, -1)]) ls := by
  obtain ⟨ps, h1, h2, h3⟩ := h.st
  have hl : ps.length = m.panics.length := by have := congrArg List.length h2; simpa using this
  have hok : ∀ (i : Nat) e, m'.trace[i]? = some e → Ok4 (R4 (m'.trace.take i)) e := by
    rw [ht];refine ok_snoc h.ok ⟨fun k => by simp at k, fun k => by simp at k, fun k => by simp at k, fun k => by simp at k, fun _ => ?_⟩;rw [h1, pop_at, last_at];exact ⟨by simp, fun _ => by dsimp only; omega⟩
  by_cases hc : x = true ∧ on ≥ 0
  · obtain ⟨rfl, h0⟩ := hc
    exact ⟨⟨_, by rw [ht, R4_snoc, h1, sR_ex1 h0], by rw [hv, pv_mod]; exact h2, no3_mod h3 (by decide) _⟩, hok⟩
  · exact ⟨⟨ps, by rw [ht, R4_snoc, h1, sR_ex2 hc], by rw [hv]; exact h2, h3⟩, hok⟩
structure RdEnd (m : MS) (d : FS) : Prop where
 st : ∃ ps : List (Int × Int × Int), R4 m.trace = ⟨[], ps, lastsM m⟩ ∧ ps.map (·.2.1) = m.panics.map (·.value) ∧ (d.en = 2 → ∀ (k : Nat) z, ps[k]? = some z → (z.2.2 = 3 ↔ (k : Int) = d.pan))
 ok : ∀ (i : Nat) e, m.trace[i]? = some e → Ok4 (R4 (m.trace.take i)) e
def onV (f : FS) : Int := if f.en = 2 then f.pan else -1
def blw (σ : List (Bool × Int)) (p : Option FS) (c : Bool) : List (Bool × Int) := match p with
 | none => []
 | some q => σ ++ [(q.dfr, if c = true then -1 else onV q)]
def onP (q d : FS) : Int := if d.en = 2 then d.pan else if d.en = 3 then -1 else if d.cnt = true then -1 else onV q
def lastsP (m : MS) (q d : FS) (dfr : Bool) : List Int := if dfr = true ∧ q.en = 2 ∧ d.cnt = false ∧ d.en = 2 then (lastsM m).set d.pan.toNat q.pan else lastsM m
structure Fr (B : Nat) (σ : List (Bool × Int)) (p : Option FS) (m : MS) (f : FS) : Prop where
 rd : Rd m (blw σ p f.cnt ++ [(f.dfr, onV f)]) (lastsM m)
 mo : MOk m
 en : f.en = 1 ∨ f.en = 2 ∨ f.en = 3
 pan : f.en = 2 → (B : Int) ≤ f.pan ∧ f.pan < m.panics.length
 ge : B ≤ m.panics.length
 cd : f.cnt = true → f.dfr = true
 qp : ∀ q, p = some q → q.en = 2 → 0 ≤ q.pan ∧ q.pan < (B : Int)
structure PostQ (σ : List (Bool × Int)) (p : Option FS) (dfr : Bool) (B : Nat) (m : MS) (d : FS) : Prop where
 mo : MOk m
 ge : B ≤ m.panics.length
 dd : d.dfr = dfr
 en : d.en = 1 ∨ d.en = 2 ∨ d.en = 3
 pan : d.en = 2 → (B : Int) ≤ d.pan ∧ d.pan < m.panics.length
 cd : d.cnt = true → dfr = true
 rn : p = none → RdEnd m d
 rs : ∀ q, p = some q → Rd m (σ ++ [(q.dfr, onP q d)]) (lastsP m q d dfr)
def R3.q (σ : List (Bool × Int)) (p : Option FS) (dfr : Bool) (B : Nat) : R3 → Prop
 | .spent _ => True
 | .done m d _ => PostQ σ p dfr B m d
def CallR4 (call : CallT) : Prop := ∀ (m : MS) (fn arg : Int) (p : Option FS) (o : Int) (dfr : Bool) (σ : List (Bool × Int)), Rd m (blw σ p false) (lastsM m) → MOk m → (∀ q, p = some q → q.en = 2 → 0 ≤ q.pan ∧ q.pan < m.panics.length) → (call m fn arg p o dfr).q σ p dfr m.panics.length
def R3.fr (B : Nat) (σ : List (Bool × Int)) (p : Option FS) (dfr : Bool) : R3 → Prop
 | .spent _ => True
 | .done m f _ => Fr B σ p m f ∧ f.dfr = dfr
def RB.fr (B : Nat) (σ : List (Bool × Int)) (p : Option FS) (dfr : Bool) : RB → Prop
 | .spent _ => True
 | .go m f _ ends => Fr B σ p m f ∧ f.dfr = dfr ∧ (ends = false → f.en = 1)
theorem onV_one {f : FS} (h : f.en = 1) : onV f = -1 := by unfold onV; rw [if_neg (by omega)]
theorem Rd.lists {m : MS} {σ τ : List (Bool × Int)} {ls ks : List Int} (h : Rd m σ ls) (e1 : σ = τ) (e2 : ls = ks) : Rd m τ ks := by subst e1 e2; exact h
theorem MOk.as {m m' : MS} (h : MOk m) (e : m'.panics = m.panics) : MOk m' := ⟨by rw [e]; exact h.la, by rw [e]; exact h.fa⟩
theorem Fr.regs {B : Nat} {σ : List (Bool × Int)} {p : Option FS} {m m' : MS} {f f' : FS} (h : Fr B σ p m f) (ht : m'.trace = m.trace) (hp : m'.panics = m.panics) (h1 : f'.en = f.en) (h2 : f'.pan = f.pan) (h3 : f'.cnt = f.cnt) (h4 : f'.dfr = f.dfr) : Fr B σ p m' f' := by
 refine ⟨?_, h.mo.as hp, by rw [h1]; exact h.en, by rw [h1, h2, hp]; exact h.pan, by rw [hp]; exact h.ge, by rw [h3, h4]; exact h.cd, h.qp⟩
 refine (h.rd.as ht (by rw [hp])).lists ?_ (by unfold lastsM; rw [hp])
 unfold onV; rw [h1, h2, h3, h4]
theorem Fr.say {B : Nat} {σ : List (Bool × Int)} {p : Option FS} {m m' : MS} {f f' : FS} {k fn v : Int} (h : Fr B σ p m f) (hk : k = 2 ∨ k = 4) (ht : m'.trace = m.trace ++ [(k, fn, v)]) (hp : m'.panics = m.panics) (h1 : f'.en = f.en) (h2 : f'.pan = f.pan) (h3 : f'.cnt = f.cnt) (h4 : f'.dfr = f.dfr) : Fr B σ p m' f' := by
 refine ⟨?_, h.mo.as hp, by rw [h1]; exact h.en, by rw [h1, h2, hp]; exact h.pan, by rw [hp]; exact h.ge, by rw [h3, h4]; exact h.cd, h.qp⟩
 refine (h.rd.no hk ht (by rw [hp])).lists ?_ (by unfold lastsM; rw [hp])
 unfold onV; rw [h1, h2, h3, h4]
theorem panAt_val {l : List PanI} {i : Int} {g : PanI → PanI} (hg : ∀ x, (g x).value = x.value) : (panAt l i g).map (·.value) = l.map (·.value) := mod_same (h := fun x : PanI => x.value) hg l _
theorem panAt_last {l : List PanI} {i : Int} {g : PanI → PanI} (hg : ∀ x, (g x).last = x.last) : (panAt l i g).map (·.last) = l.map (·.last) := mod_same (h := fun x : PanI => x.last) hg l _
theorem panAt_get {l : List PanI} {i : Int} {g : PanI → PanI} {k : Nat} {y : PanI} (h : (panAt l i g)[k]? = some y) : ∃ x, l[k]? = some x ∧ (y = x ∨ (k = i.toNat ∧ y = g x)) := by
 unfold panAt at h
 rw [List.getElem?_modify] at h
 cases hx : l[k]? with
 | none => rw [hx] at h; cases h
 | some x =>
  rw [hx] at h
  by_cases e : i.toNat = k
  · simp [e] at h; exact ⟨x, rfl, .inr ⟨e.symm, h.symm⟩⟩
  · simp [e] at h; exact ⟨x, rfl, .inl h.symm⟩
theorem MOk.at_ {m m' : MS} {i : Int} {g : PanI → PanI} (h : MOk m) (e : m'.panics = panAt m.panics i g) (hl : ∀ x, m.panics[i.toNat]? = some x → -1 ≤ (g x).last ∧ (g x).last < (i.toNat : Int)) (hf : ∀ x, x.fate ≠ 3 → (g x).fate ≠ 3) : MOk m' := by
  refine ⟨fun k y hy => ?_, fun y hy => ?_⟩
  · rw [e] at hy
    obtain ⟨x, hx, rfl | ⟨rfl, rfl⟩⟩ := panAt_get hy
    · exact h.la k y hx
    · exact hl x hx
  · rw [e] at hy
    obtain ⟨k, hk⟩ := List.getElem?_of_mem hy;obtain ⟨x, hx, rfl | ⟨_, rfl⟩⟩ := panAt_get hk
    · exact h.fa _ (List.mem_of_getElem? hx)
    · exact hf x (h.fa _ (List.mem_of_getElem? hx))
theorem stepS_Q {call : CallT} (hc : CallR4 call) {B : Nat} {σ : List (Bool × Int)} {p : Option FS} {m : MS} {f : FS} {o : Int} {s : Stp} (h : Fr B σ p m f) (h1 : f.en = 1) : (stepS call m f p o s).fr B σ p f.dfr := by
  unfold stepS
  by_cases k1 : s.k = 1
  · rw [if_pos k1]; exact ⟨h.regs rfl rfl rfl rfl rfl rfl, rfl, fun _ => h1⟩
  rw [if_neg k1]
  by_cases k2 : s.k = 2
  · rw [if_pos k2]; exact ⟨h.regs rfl rfl rfl rfl rfl rfl, rfl, fun _ => h1⟩
  rw [if_neg k2]
  by_cases k3 : s.k = 3
  · rw [if_pos k3]; exact ⟨h.say (.inr rfl) rfl rfl rfl rfl rfl rfl, rfl, fun _ => h1⟩
  rw [if_neg k3]
  by_cases k4 : s.k = 4
  · rw [if_pos k4]
    have hq := hc m s.a (f.get s.b) (some f) f.r1 false (blw σ p f.cnt) (by simpa [blw] using h.rd) h.mo (fun q hq he => by obtain rfl := Option.some.inj hq; omega);cases hcall : call m s.a (f.get s.b) (some f) f.r1 false with
    | spent m1 => trivial
    | done m1 d o1 =>
      rw [hcall] at hq;have hq : PostQ (blw σ p f.cnt) (some f) false m.panics.length m1 d := hq
      have hcnt : d.cnt = false := by
        cases hd : d.cnt with
        | false => rfl
        | true => exact absurd (hq.cd hd) (by simp)
      have hrd := hq.rs f rfl;have hls : lastsP m1 f d false = lastsM m1 := by unfold lastsP; rw [if_neg (by simp)]
      rw [hls] at hrd;have hge : B ≤ m1.panics.length := Nat.le_trans h.ge hq.ge;have hqp : ∀ q, p = some q → q.en = 2 → 0 ≤ q.pan ∧ q.pan < (B : Int) := h.qp
      dsimp only
      by_cases hd : d.en = 1
      · rw [if_pos hd]
        refine ⟨⟨hrd.lists ?_ rfl, hq.mo, .inl h1, fun e => ?_, hge, h.cd, hqp⟩, rfl, fun _ => h1⟩
        · have e1 : onP f d = -1 := by unfold onP; rw [if_neg (by omega), if_neg (by omega), hcnt, if_neg (by simp), onV_one h1]
          rw [e1];unfold onV; dsimp only; rw [if_neg (by omega)]
        · have e : f.en = 2 := e; omega
      · rw [if_neg hd]
        refine ⟨⟨hrd.lists ?_ rfl, hq.mo, hq.en, fun e => ?_, hge, h.cd, hqp⟩, rfl, fun e => by simp at e⟩
        · have e1 : onP f d = if d.en = 2 then d.pan else -1 := by
            unfold onP
            by_cases h2 : d.en = 2
            · rw [if_pos h2, if_pos h2]
            · rw [if_neg h2, if_neg h2, if_pos (by have := hq.en; omega)]
          rw [e1]; rfl
        · have := hq.pan e
          have := h.ge
          dsimp only; omega
  rw [if_neg k4]
  by_cases k5 : s.k = 5
  · rw [if_pos k5]; exact ⟨h.say (.inl rfl) rfl rfl rfl rfl rfl rfl, rfl, fun _ => h1⟩
  rw [if_neg k5]
  by_cases k6 : s.k = 6
  · rw [if_pos k6]
    refine ⟨⟨?_, ⟨fun k x hk => ?_, fun x hx => ?_⟩, .inr (.inl rfl), fun _ => ?_, ?_, h.cd, h.qp⟩, rfl, fun e => by simp at e⟩
    · have := h.rd.panic (m' := ({ m with panics := m.panics ++ [{ call := f.id, fn := f.fn, value := f.get s.a, depth := m.depth, fate := 0, by_ := -1, last := -1, again := f.cnt, unw := [] }] } : MS).tell 5 f.fn (f.get s.a) f.id) rfl (by simp [MS.tell])
      refine this.lists ?_ (by unfold lastsM; simp [MS.tell]);unfold onV; dsimp only; rw [if_pos rfl]
    · have hk : (m.panics ++ [({ call := f.id, fn := f.fn, value := f.get s.a, depth := m.depth, fate := 0, by_ := -1, last := -1, again := f.cnt, unw := [] } : PanI)])[k]? = some x := hk
      by_cases hlt : k < m.panics.length
      · rw [List.getElem?_append_left hlt] at hk; exact h.mo.la k x hk
      · rw [List.getElem?_append_right (by omega)] at hk
        obtain ⟨_, e⟩ := List.getElem?_eq_some_iff.1 hk
        simp at e
        subst e
        dsimp only; omega
    · have hx : x ∈ m.panics ++ [({ call := f.id, fn := f.fn, value := f.get s.a, depth := m.depth, fate := 0, by_ := -1, last := -1, again := f.cnt, unw := [] } : PanI)] := hx
      rcases List.mem_append.1 hx with hx | hx
      · exact h.mo.fa x hx
      · rw [List.mem_singleton.1 hx]; simp
    · have := h.ge
      simp only [MS.tell, List.length_append, List.length_cons, List.length_nil]; omega
    · have := h.ge
      simp only [MS.tell, List.length_append, List.length_cons, List.length_nil]; omega
  rw [if_neg k6]
  by_cases k7 : s.k = 7
  · rw [if_pos k7]
    have hno : Fr B σ p m (recNo f s.a) ∧ (recNo f s.a).dfr = f.dfr ∧ (false = false → (recNo f s.a).en = 1) := ⟨h.regs rfl rfl rfl rfl rfl rfl, rfl, fun _ => h1⟩;unfold zY;cases p with
    | none => exact hno
    | some q =>
      dsimp only
      by_cases hcr : canRec f (some q) = true
      · rw [if_pos hcr]
        simp only [canRec, Bool.and_eq_true, Bool.not_eq_true', decide_eq_true_eq] at hcr;obtain ⟨⟨hd, hcn⟩, hqe⟩ := hcr;have hqr := h.qp q rfl hqe;have hge := h.ge;have hrd := h.rd;rw [hcn] at hrd;have hov : onV q = q.pan := if_pos hqe;have hrd : Rd m (σ ++ [(q.dfr, q.pan)] ++ [(f.dfr, onV f)]) (lastsM m) := hrd.lists (by unfold blw; dsimp only; rw [if_neg (by simp), hov]) rfl;have hv : (recM m f q).panics.map (·.value) = m.panics.map (·.value) := panAt_val fun _ => rfl;have hl : lastsM (recM m f q) = lastsM m := panAt_last fun _ => rfl;have hlen : (recM m f q).panics.length = m.panics.length := panAt_length _ _ _;refine ⟨⟨(hrd.recov (m' := recM m f q) ⟨hqr.1, by omega⟩ rfl hv).lists ?_ hl.symm, h.mo.at_ (m' := recM m f q) (i := q.pan) (g := fun x => { x with fate := 1 }) rfl (fun x hx => h.mo.la _ x hx) (fun x _ => by dsimp only; decide), .inl h1, fun e => ?_, by rw [hlen]; exact h.ge, fun _ => hd, h.qp⟩, rfl, fun _ => h1⟩
        · unfold blw; dsimp only; rw [if_pos (show (recF m f q s.a).cnt = true from rfl)]; rfl
        · have e : f.en = 2 := e; omega
      · rw [if_neg hcr]; exact hno
  rw [if_neg k7]
  by_cases k8 : s.k = 8
  · rw [if_pos k8]; exact ⟨h.regs rfl rfl rfl rfl rfl rfl, rfl, fun e => by simp at e⟩
  rw [if_neg k8]
  by_cases k9 : s.k = 9
  · rw [if_pos k9]; exact ⟨h, rfl, fun _ => h1⟩
  rw [if_neg k9]
  by_cases k10 : s.k = 10
  · rw [if_pos k10]
    refine ⟨⟨h.rd.lists ?_ rfl, h.mo, .inr (.inr rfl), fun e => by simp at e, h.ge, h.cd, h.qp⟩, rfl, fun e => by simp at e⟩;rw [onV_one h1]; rfl
  rw [if_neg k10]
  by_cases k12 : s.k = 12
  · rw [if_pos k12]; exact ⟨h.regs rfl rfl rfl rfl rfl rfl, rfl, fun _ => h1⟩
  rw [if_neg k12]
  by_cases k13 : s.k = 13
  · rw [if_pos k13]; exact ⟨h.regs rfl rfl rfl rfl rfl rfl, rfl, fun _ => h1⟩
  rw [if_neg k13]
  exact ⟨h, rfl, fun _ => h1⟩
theorem bodyS_Q {call : CallT} (hc : CallR4 call) {B : Nat} {σ : List (Bool × Int)} {p : Option FS} {fuel : Int} {steps : List Stp} : ∀ (k : Nat) (m : MS) (f : FS) (o : Int) (at_ : Nat), Fr B σ p m f → f.en = 1 → (bodyS fuel call steps p k m f o at_).fr B σ p f.dfr := by
  intro k
  induction k with
  | zero => intro m f o at_ _ _; trivial
  | succ k ih =>
    intro m f o at_ h h1;simp only [bodyS]
    split
    · exact ⟨h, rfl⟩
    · split
      · trivial
      · have h2 : Fr B σ p (m.step f.fn at_) f := h.regs rfl rfl rfl rfl rfl rfl
        split
        · exact ih _ _ _ _ h2 h1
        · rename_i s _ _ _
          have h3 := stepS_Q (p := p) (o := o) (s := s) hc h2 h1
          split
          · trivial
          · rename_i hq; rw [hq] at h3; exact ⟨h3.1, h3.2.1⟩
          · rename_i m2 f2 o2 hq
            rw [hq] at h3;have h4 := ih m2 f2 o2 (at_ + 1) h3.1 (h3.2.2 rfl);rw [h3.2.1] at h4;exact h4
theorem behind_Q {B : Nat} {σ : List (Bool × Int)} {p : Option FS} {m m1 : MS} {f f2 f3 d : FS} (h : Fr B σ p m f) (e2 : f2.en = f.en ∧ f2.pan = f.pan ∧ f2.cnt = f.cnt ∧ f2.dfr = f.dfr) (e3 : f3.en = f.en ∧ f3.pan = f.pan ∧ f3.cnt = f.cnt ∧ f3.dfr = f.dfr) (hq : PostQ (blw σ p f.cnt) (some f2) true m.panics.length m1 d) : Fr B σ p (yK m1 f3 d) (yZ f3 d) ∧ (yZ f3 d).dfr = f.dfr := by
  have hrd := hq.rs f2 rfl
  have hBF : (yZ f3 d).cnt = f.cnt ∧ (yZ f3 d).dfr = f.dfr := by
    unfold yZ
    (repeat' split) <;> exact ⟨e3.2.2.1, e3.2.2.2⟩
  have htr : (yK m1 f3 d).trace = m1.trace := by unfold yK; (repeat' split) <;> rfl
  have hval : (yK m1 f3 d).panics.map (·.value) = m1.panics.map (·.value) := by
    unfold yK
    (repeat' split)
    · refine Eq.trans (panAt_val ?_) (panAt_val ?_) <;> intro x <;> rfl
    · exact panAt_val fun _ => rfl
    · rfl
    · rfl
  have hlen : (yK m1 f3 d).panics.length = m1.panics.length := by have := congrArg List.length hval; simpa using this
  have hlast : lastsM (yK m1 f3 d) = lastsP m1 f2 d true := by
    unfold yK lastsP onB;rw [e2.1, e2.2.1, e3.1, e3.2.1]
    by_cases a1 : f.en = 2
    · by_cases a2 : d.cnt = true
      · rw [if_neg (by rw [a2]; simp), if_neg (by rw [a2]; simp)]
      · rw [Bool.not_eq_true] at a2
        rw [if_pos (by rw [a2]; simp [a1])]
        by_cases a3 : d.en = 2
        · rw [if_pos a3, if_pos ⟨rfl, a1, a2, a3⟩]
          show (panAt (panAt m1.panics f.pan _) d.pan _).map (·.last) = _
          unfold panAt;rw [mod_set (h := fun x : PanI => x.last) (v := f.pan) (fun _ => rfl)];refine congrArg (fun z : List Int => z.set d.pan.toNat f.pan) (mod_same (h := fun x : PanI => x.last) ?_ _ _);intro x; rfl
        · rw [if_neg a3, if_neg (show ¬ (true = true ∧ f.en = 2 ∧ d.cnt = false ∧ d.en = 2) from fun h => a3 h.2.2.2)]
          split
          · exact panAt_last fun _ => rfl
          · rfl
    · rw [if_neg (by simp [a1]), if_neg (fun h => a1 h.2.1)]
  have hon : onV (yZ f3 d) = onP f2 d := by
    unfold yZ onP
    by_cases a1 : d.en = 2
    · rw [if_pos a1, if_pos a1]; unfold onV; dsimp only; rw [if_pos rfl]
    · rw [if_neg a1, if_neg a1]
      by_cases a2 : d.en = 3
      · rw [if_pos a2, if_pos a2]; unfold onV; dsimp only; rw [if_neg (by decide)]
      · rw [if_neg a2, if_neg a2]
        by_cases a3 : d.cnt = true
        · rw [if_pos a3, if_pos a3]; unfold onV; dsimp only; rw [if_neg (by split <;> decide)]
        · rw [if_neg a3, if_neg a3]; unfold onV; dsimp only; rw [e2.1, e2.2.1, e3.1, e3.2.1]
  have hge : B ≤ m1.panics.length := Nat.le_trans h.ge hq.ge
  have hmo : MOk (yK m1 f3 d) := by
    unfold yK
    split
    · rename_i hob
      have hfe : f.en = 2 := by
        unfold onB at hob;rw [e3.1] at hob
        simp at hob
        exact hob.1
      have hfp := h.pan hfe
      split
      · rename_i hde
        have hdp := hq.pan hde;have h2 : MOk { m1 with panics := panAt m1.panics f3.pan (fun x => { x with fate := 2, by_ := d.pan }) } := hq.mo.at_ (i := f3.pan) (g := fun x => { x with fate := 2, by_ := d.pan }) rfl (fun x hx => hq.mo.la _ x hx) (fun x _ => by dsimp only; decide);refine h2.at_ (i := d.pan) (g := fun x => { x with last := f3.pan }) rfl (fun x hx => ?_) (fun x hx => hx)
        dsimp only
        rw [e3.2.1]
        omega
      · split
        · exact hq.mo.at_ (i := f3.pan) (g := fun x => { x with fate := 4 }) rfl (fun x hx => hq.mo.la _ x hx) (fun x _ => by dsimp only; decide)
        · exact hq.mo
    · exact hq.mo
  refine ⟨⟨(hrd.as htr hval).lists ?_ hlast.symm, hmo, ?_, fun e => ?_, by rw [hlen]; exact hge, by rw [hBF.1, hBF.2]; exact h.cd, h.qp⟩, hBF.2⟩
  · rw [hBF.1, hBF.2, hon, e2.2.2.2]
  · unfold yZ
    split
    · exact .inr (.inl rfl)
    · split
      · exact .inr (.inr rfl)
      · split
        · dsimp only; split
          · exact .inr (.inr rfl)
          · exact .inl rfl
        · dsimp only; rw [e3.1]; exact h.en
  · rw [hlen]
    have hge2 := h.ge;have hge3 := hq.ge;unfold yZ at e ⊢
    split at e
    · rename_i a1
      rw [if_pos a1];have := hq.pan a1
      dsimp only; omega
    · rename_i a1
      rw [if_neg a1]
      split at e
      · simp at e
      · rename_i a2
        rw [if_neg a2]
        split at e
        · dsimp only at e; split at e <;> simp at e
        · rename_i a3
          rw [if_neg a3]
          dsimp only at e ⊢
          rw [e3.1] at e;have := h.pan e;rw [e3.2.1]
          omega
theorem runsS_Q {call : CallT} (hc : CallR4 call) {B : Nat} {σ : List (Bool × Int)} {p : Option FS} : ∀ (k : Nat) (m : MS) (f : FS) (o : Int), Fr B σ p m f → (runsS call k m f p o).fr B σ p f.dfr := by
  intro k
  induction k with
  | zero => intro m f o h; exact ⟨h, rfl⟩
  | succ k ih =>
    intro m f o h;simp only [runsS]
    split
    · exact ⟨h, rfl⟩
    · rename_i z hz
      have hq := hc m z.1 z.2 (some { f with runs := f.runs.dropLast }) f.r1 true (blw σ p f.cnt) (h.rd.lists rfl rfl) h.mo (fun q hq he => by
        obtain rfl := Option.some.inj hq;have := h.pan he
        dsimp only; omega)
      split
      · trivial
      · rename_i m1 d o1 hcall
        rw [hcall] at hq;have hb := behind_Q (f2 := { f with runs := f.runs.dropLast }) (f3 := { f with runs := f.runs.dropLast, r1 := o1 }) h ⟨rfl, rfl, rfl, rfl⟩ ⟨rfl, rfl, rfl, rfl⟩ hq;have h4 := ih _ _ o hb.1;rw [hb.2] at h4;exact h4
theorem finish_Q {B : Nat} {σ : List (Bool × Int)} {p : Option FS} {m m' : MS} {f : FS} (h : Fr B σ p m f) (ht : m'.trace = m.trace ++ [(finKind f, f.fn, finVal m f)]) (hp : m'.panics = (finishS m f).panics) : PostQ σ p f.dfr B m' f := by
  have hpan : m'.panics = if f.en = 2 then panAt m.panics f.pan (fun x => { x with unw := x.unw ++ [f.fn] }) else m.panics := hp
  have hval : m'.panics.map (·.value) = m.panics.map (·.value) := by
    rw [hpan]; split
    · exact panAt_val fun _ => rfl
    · rfl
  have hlast : lastsM m' = lastsM m := by
    unfold lastsM;rw [hpan]; split
    · exact panAt_last fun _ => rfl
    · rfl
  have hlen : m'.panics.length = m.panics.length := by have := congrArg List.length hval; simpa using this
  have hmo : MOk m' := by
    by_cases e : f.en = 2
    · rw [if_pos e] at hpan
      exact h.mo.at_ hpan (fun x hx => h.mo.la _ x hx) (fun x hx => hx)
    · rw [if_neg e] at hpan
      exact h.mo.as hpan
  have hge := h.ge
  refine ⟨hmo, by rw [hlen]; exact h.ge, rfl, h.en, by rw [hlen]; exact h.pan, h.cd, fun hn => ?_, fun q hq => ?_⟩
  · subst hn
    have hrd : Rd m ([] ++ [(f.dfr, onV f)]) (lastsM m) := h.rd;obtain ⟨ps, h1, h2, h3⟩ := hrd.st;have hl : ps.length = m.panics.length := by have := congrArg List.length h2; simpa using this
    by_cases e1 : f.en = 1
    · have hk : finKind f = 7 := if_pos e1
      have hr := hrd.ret (m' := m') (fn := f.fn) (v := finVal m f) (by rw [ht, hk]) hval;obtain ⟨qs, k1, k2, k3⟩ := hr.st;exact ⟨⟨qs, by rw [k1, hlast], k2, fun e => by omega⟩, hr.ok⟩
    · by_cases e2 : f.en = 2
      · have hk : finKind f = 8 := by unfold finKind; rw [if_neg e1, if_pos e2]
        have hov : onV f = f.pan := if_pos e2;have hfp := h.pan e2;refine ⟨⟨ps.modify f.pan.toNat fun z => (z.1, z.2.1, 3), by rw [ht, R4_snoc, h1, hk, hov, hlast]; exact sR_unw0, by rw [hval, pv_mod]; exact h2, fun _ k z hz => ?_⟩, ?_⟩
        · rw [List.getElem?_modify] at hz
          cases hy : ps[k]? with
          | none => rw [hy] at hz; cases hz
          | some y =>
            rw [hy] at hz;have hn3 := h3 y (List.mem_of_getElem? hy)
            by_cases e : f.pan.toNat = k
            · simp [e] at hz
              rw [← hz];exact ⟨fun _ => by omega, fun _ => rfl⟩
            · simp [e] at hz
              rw [← hz];exact ⟨fun h9 => absurd h9 hn3, fun h9 => by omega⟩
        · rw [ht]
          refine ok_snoc h.rd.ok ⟨fun k => by rw [hk] at k; simp at k, fun k => by rw [hk] at k; simp at k, fun k => by rw [hk] at k; simp at k, fun _ => ?_, fun k => by rw [hk] at k; simp at k⟩;rw [h1, last_at, hov];exact ⟨by simp, by dsimp only; omega, by dsimp only; omega, fun h9 => by simp at h9⟩
      · have hk : finKind f = 9 := by unfold finKind; rw [if_neg e1, if_neg e2]
        refine ⟨⟨ps, by rw [ht, R4_snoc, h1, hk, hlast]; exact sR_ex0, by rw [hval]; exact h2, fun e => absurd e e2⟩, ?_⟩;rw [ht];refine ok_snoc h.rd.ok ⟨fun k => by rw [hk] at k; simp at k, fun k => by rw [hk] at k; simp at k, fun k => by rw [hk] at k; simp at k, fun k => by rw [hk] at k; simp at k, fun _ => ?_⟩;rw [h1];exact ⟨by simp, fun h9 => by simp at h9⟩
  · subst hq
    have hrd : Rd m (σ ++ [(q.dfr, if f.cnt = true then -1 else onV q)] ++ [(f.dfr, onV f)]) (lastsM m) := h.rd;have hqb := h.qp q rfl
    have hon : (if f.cnt = true then -1 else onV q) < (m.panics.length : Int) := by
      split
      · omega
      · unfold onV; split
        · rename_i e; have := hqb e; omega
        · omega
    by_cases e1 : f.en = 1
    · have hk : finKind f = 7 := if_pos e1
      refine (hrd.ret (m' := m') (fn := f.fn) (v := finVal m f) (by rw [ht, hk]) hval).lists ?_ ?_
      · rw [show onP q f = (if f.cnt = true then -1 else onV q) by unfold onP; rw [if_neg (by omega), if_neg (by omega)]]
      · unfold lastsP; rw [if_neg (by omega), hlast]
    · by_cases e2 : f.en = 2
      · have hk : finKind f = 8 := by unfold finKind; rw [if_neg e1, if_pos e2]
        have hov : onV f = f.pan := if_pos e2;have hfp := h.pan e2;rw [hov] at hrd;refine (hrd.unw (m' := m') (fn := f.fn) (v := finVal m f) ⟨by omega, hfp.2⟩ hon (by rw [ht, hk]) hval).lists ?_ ?_
        · unfold onP; rw [if_pos e2]
        · unfold lastsP
          rw [hlast]
          by_cases c1 : q.en = 2
          · have hqv := hqb c1
            have hoq : onV q = q.pan := if_pos c1
            by_cases c2 : f.cnt = true
            · rw [if_pos c2, if_neg (fun h9 => by have := h9.2; omega), if_neg (fun h9 => by rw [c2] at h9; simp at h9)]
            · rw [if_neg c2, hoq]
              rw [Bool.not_eq_true] at c2
              by_cases c3 : f.dfr = true
              · rw [if_pos ⟨c3, hqv.1⟩, if_pos ⟨c3, c1, c2, e2⟩]
              · rw [if_neg (fun h9 => c3 h9.1), if_neg (fun h9 => c3 h9.1)]
          · have hoq : onV q = -1 := if_neg c1
            rw [hoq, if_neg (fun h9 => by have := h9.2; split at this <;> omega), if_neg (fun h9 => c1 h9.2.1)]
      · have hk : finKind f = 9 := by unfold finKind; rw [if_neg e1, if_neg e2]
        refine (hrd.exi (m' := m') (fn := f.fn) (v := finVal m f) hon (by rw [ht, hk]) hval).lists ?_ ?_
        · unfold onP; rw [if_neg e2, if_pos (by have := h.en; omega)]
        · unfold lastsP; rw [if_neg (by omega), hlast]
theorem callS_Q {P : List (List Stp)} (fuel : Int) : ∀ d, CallR4 (callS P fuel d) := by
  intro d
  induction d with
  | zero => intro m fn arg p o dfr σ _ _ _; trivial
  | succ d ih =>
    intro m fn arg p o dfr σ hr hm hq;simp only [callS]
    have h0 : Fr m.panics.length σ p (m.enter fn arg (parId p) dfr) (m.frame fn arg dfr) := by
      refine ⟨?_, hm.as rfl, .inl rfl, fun e => by simp [MS.frame] at e, Nat.le_refl _, fun e => by simp [MS.frame] at e, hq⟩;have h9 := hr.call (m' := m.enter fn arg (parId p) dfr) (k := if dfr = true then 3 else 1) (fn := fn) (v := arg) (by cases dfr <;> simp) rfl rfl;refine h9.lists ?_ rfl;cases dfr <;> rfl
    have h1 := bodyS_Q (p := p) ih (fuel := fuel) (steps := P.getD fn.toNat []) (fuel - m.made).toNat.succ _ _ o 0 h0 rfl
    split
    · trivial
    · rename_i m1 f1 o1 hb
      rw [hb] at h1;have h2 := runsS_Q (p := p) ih f1.runs.length m1 f1 o1 h1.1
      split
      · trivial
      · rename_i m2 f2 o2 hb2
        rw [hb2] at h2;have h3 := finish_Q (m' := { finishS m2 f2 with depth := m2.depth - 1 }) h2.1 rfl rfl;have e : f2.dfr = dfr := h2.2.trans h1.2;rw [e] at h3;exact h3
structure Chn (m : MS) (k0 : Nat) : Prop where
 lt : k0 < m.panics.length
 la : ∀ (k : Nat) x, m.panics[k]? = some x → -1 ≤ x.last ∧ x.last < (k : Int)
 fa : ∀ (k : Nat) x, m.panics[k]? = some x → (x.fate = 3 ↔ k = k0)
 rd : ∃ ps : List (Int × Int × Int), R4 m.trace = ⟨[], ps, lastsM m⟩ ∧ ps.map (·.2.1) = m.panics.map (·.value) ∧ ∀ (k : Nat) z, ps[k]? = some z → (z.2.2 = 3 ↔ k = k0)
 ok : ∀ (i : Nat) e, m.trace[i]? = some e → Ok4 (R4 (m.trace.take i)) e
theorem start_Q (shared : Int) : Rd (MS.start shared) (blw [] none false) (lastsM (MS.start shared)) := ⟨⟨[], rfl, rfl, fun z hz => by simp at hz⟩, fun i e h => by simp [MS.start] at h⟩
theorem run_chn {P : List (List Stp)} {shared f arg fuel : Int} (h : (runS P shared f arg fuel).k = 2) : ∃ k0, Chn (runS P shared f arg fuel).m k0 := by
  have hq := callS_Q (P := P) fuel 8 (MS.start shared) f arg none 0 false [] (start_Q shared) ⟨fun k x hk => by simp [MS.start] at hk, fun x hx => by simp [MS.start] at hx⟩ (fun q hq => by cases hq)
  unfold runS at h ⊢
  cases hc : callS P fuel 8 (MS.start shared) f arg none 0 false with
  | spent m => rw [hc] at h; simp [runOf] at h
  | done m d o =>
    rw [hc] at h hq;have hq : PostQ [] none false (MS.start shared).panics.length m d := hq;have hd : d.en = 2 := h;obtain ⟨⟨ps, h1, h2, h3⟩, hok⟩ := hq.rn rfl;have hp := hq.pan hd;have h0 : ((MS.start shared).panics.length : Int) = 0 := rfl;have hrm : (runOf (.done m d o)).m = { m with panics := panAt m.panics d.pan (fun x => { x with fate := 3 }) } := by unfold runOf; dsimp only; rw [if_pos hd]
    rw [hrm];have hlen : (panAt m.panics d.pan (fun x => { x with fate := 3 })).length = m.panics.length := panAt_length _ _ _;have hls : lastsM { m with panics := panAt m.panics d.pan (fun x => { x with fate := 3 }) } = lastsM m := panAt_last fun _ => rfl;have hvl : ({ m with panics := panAt m.panics d.pan (fun x => { x with fate := 3 }) } : MS).panics.map (·.value) = m.panics.map (·.value) := panAt_val fun _ => rfl;refine ⟨d.pan.toNat, by dsimp only; rw [hlen]; omega, fun k x hk => ?_, fun k x hk => ?_, ⟨ps, by rw [hls]; exact h1, h2.trans hvl.symm, fun k z hz => (h3 hd k z hz).trans ⟨fun h9 => by omega, fun h9 => by omega⟩⟩, hok⟩
    · obtain ⟨y, hy, rfl | ⟨_, rfl⟩⟩ := panAt_get hk
      · exact hq.mo.la k _ hy
      · exact hq.mo.la k y hy
    · have hk : (m.panics.modify d.pan.toNat fun x => { x with fate := 3 })[k]? = some x := hk
      rw [List.getElem?_modify] at hk;cases hy : m.panics[k]? with
      | none => rw [hy] at hk; cases hk
      | some y =>
        rw [hy] at hk;have hn := hq.mo.fa y (List.mem_of_getElem? hy)
        by_cases e : d.pan.toNat = k
        · simp [e] at hk; rw [← hk]; exact ⟨fun _ => e.symm, fun _ => rfl⟩
        · simp [e] at hk; rw [← hk]; exact ⟨fun h9 => absurd h9 hn, fun h9 => absurd h9.symm e⟩
def chainV (ls vs : List Int) : Nat → Int → List Int
 | 0, _ => []
 | n + 1, k => if k < 0 then [] else vs.getD k.toNat 0 :: chainV ls vs n (ls.getD k.toNat (-1))
theorem chainV_more {ls vs : List Int} (h : ∀ (k : Nat) x, ls[k]? = some x → x < (k : Int)) : ∀ (n d : Nat) (k : Int), k < (n : Int) → chainV ls vs (n + d) k = chainV ls vs n k
  | 0, 0, _, _ => rfl
  | 0, d + 1, k, hk => by rw [Nat.zero_add]; simp only [chainV]; rw [if_pos (by omega)]
  | n + 1, d, k, hk => by
    rw [show n + 1 + d = n + d + 1 by omega, chainV, chainV]
    by_cases h0 : k < 0
    · rw [if_pos h0, if_pos h0]
    · rw [if_neg h0, if_neg h0]
      congr 1
      refine chainV_more h n d _ ?_
      rw [List.getD_eq_getElem?_getD]
      cases hx : ls[k.toNat]? with
      | none => simp; omega
      | some x => have := h _ _ hx; simp; omega
def chainR (m : MS) (k : Int) : List Int := chainV (lastsM m) (m.panics.map (·.value)) m.panics.length k
theorem chainR_end (m : MS) {k : Int} (h : k < 0) : chainR m k = [] := by
 unfold chainR
 cases m.panics.length with
 | zero => rfl
 | succ n => rw [chainV, if_pos h]
theorem chainR_next {m : MS} {k0 : Nat} (h : Chn m k0) {k : Nat} {x : PanI} (hx : m.panics[k]? = some x) : chainR m (k : Int) = x.value :: chainR m x.last := by
 have hk := (List.getElem?_eq_some_iff.1 hx).1
 have hla : ∀ (k : Nat) y, (lastsM m)[k]? = some y → y < (k : Int) := fun k y hy => by
  unfold lastsM at hy
  rw [List.getElem?_map] at hy
  obtain ⟨z, hz, rfl⟩ := Option.map_eq_some_iff.1 hy
  exact (h.la k z hz).2
 have e1 : (m.panics.map (·.value)).getD k 0 = x.value := by rw [List.getD_eq_getElem?_getD, List.getElem?_map, hx]; rfl
 have e2 : (lastsM m).getD k (-1) = x.last := by unfold lastsM; rw [List.getD_eq_getElem?_getD, List.getElem?_map, hx]; rfl
 have h1 := (h.la k x hx).2
 unfold chainR
 have e3 := chainV_more (vs := m.panics.map (·.value)) hla k (m.panics.length - k) x.last h1
 have e4 := chainV_more (vs := m.panics.map (·.value)) hla (k + 1) (m.panics.length - (k + 1)) (k : Int) (by omega)
 rw [show k + (m.panics.length - k) = m.panics.length by omega] at e3
 rw [show k + 1 + (m.panics.length - (k + 1)) = m.panics.length by omega] at e4
 rw [e3, e4, chainV, if_neg (by omega), Int.toNat_natCast, e1, e2]
theorem chainR_len {m : MS} {k0 : Nat} (h : Chn m k0) : ∀ (n k : Nat), k ≤ n → (chainR m ((k : Int) - 1)).length ≤ k
  | 0, k, hk => by rw [chainR_end m (by omega)]; exact Nat.zero_le _
  | n + 1, 0, _ => by rw [chainR_end m (by omega)]; exact Nat.zero_le _
  | n + 1, k + 1, hk => by
    rw [show ((k + 1 : Nat) : Int) - 1 = (k : Int) by omega];cases hx : m.panics[k]? with
    | none =>
      have hl := List.getElem?_eq_none_iff.1 hx
      by_cases h9 : (k : Int) < 0
      · omega
      · unfold chainR
        have : ∀ (n : Nat) (ls vs : List Int), (chainV ls vs n (k : Int)).length ≤ n := by
          intro n
          have gen : ∀ (n : Nat) (ls vs : List Int) (k : Int), (chainV ls vs n k).length ≤ n := by
            intro n
            induction n with
            | zero => intro ls vs k; exact Nat.le_refl _
            | succ n ih =>
              intro ls vs k;rw [chainV]
              split
              · exact Nat.zero_le _
              · rw [List.length_cons]; have := ih ls vs (ls.getD k.toNat (-1)); omega
          exact fun ls vs => gen n ls vs _
        have := this m.panics.length (lastsM m) (m.panics.map (·.value))
        omega
    | some x =>
      rw [chainR_next h hx, List.length_cons];have h1 := h.la k x hx;have h2 := chainR_len h n (x.last + 1).toNat (by omega);rw [show (((x.last + 1).toNat : Nat) : Int) - 1 = x.last by omega] at h2
      omega
def codeE (v : Int) : Int := Int.tmod (Int.tmod v 100 + 100) 100
def nodeE (n i : Nat) (v : Int) : Int × Int × List Int := if i + 1 = n then (1, codeE v, []) else (2, codeE v, [(i : Int) + 1])
def nodesE (L : List Int) : List (Int × Int × List Int) := (L.take 12).mapIdx (nodeE (min L.length 12))
theorem nodesE_at {L : List Int} {i : Nat} {v : Int} (h : L[i]? = some v) (hi : i < 12) : (nodesE L)[i]? = some (nodeE (min L.length 12) i v) := by
 unfold nodesE
 rw [List.getElem?_mapIdx, List.getElem?_take, if_pos hi, h]; rfl
theorem nodesE_len (L : List Int) : (nodesE L).length = min L.length 12 := by unfold nodesE; rw [List.length_mapIdx, List.length_take, Nat.min_comm]
theorem nodesE_next {L : List Int} {i : Nat} {v : Int} (h : L[i]? = some v) (hi : i < 12) : (nodesE L).take (i + 1) = (nodesE L).take i ++ [nodeE (min L.length 12) i v] := by
 rw [List.take_add_one, nodesE_at h hi]; rfl
end Go.Proofs.Ytcbijhgepdedpaa.SX
namespace Go.Proofs.Ytcbijhgepdedpaa
namespace SX
open Go.RowKit Go.Proofs.YtcbijhgepdedpaaW.PrintWords
structure RdE {α : Type} (enc : α → List Value) (sz : Nat) (w : World) (s : Sl) (l : List α) : Prop where
 len : s.n = l.length
 le : l.length ≤ s.c
 big : l.length ≤ 9223372036854775807
 at_ : ∀ (j : Nat) (x : α), l[j]? = some x → s.A = some ⟨bk s, of_ s, none⟩ ∧ ∀ (o : Nat) (u : Value), (enc x)[o]? = some u → w.cell? ⟨bk s, of_ s + j * sz + o, none⟩ = some u
section
variable {α : Type} {enc : α → List Value} {sz : Nat} {w0 w w' : World} {Rs : List Asn} {s : Sl} {l : List α}
theorem RdE.below (h : RdE enc sz w s l) (hb : Below w.heap.size w w') : RdE enc sz w' s l := ⟨h.len, h.le, h.big, fun j x hx => ⟨(h.at_ j x hx).1, fun o u hu => pw_cell_below hb ((h.at_ j x hx).2 o u hu)⟩⟩
theorem RdE.sat (h : RdE enc sz w0 s l) (hS : Sat w0 w Rs) : RdE enc sz w s l := h.below hS.below
theorem Sat.rowC {T : TypeId} {vs : List Value} (h : Sat w0 w Rs) (i : Nat) (hi : Rs[i]? = some (SX.row s.v T sz vs)) : s.n ≤ s.c ∧ s.n ≤ 9223372036854775807 := by
  obtain ⟨n, h1, h2⟩ := h.row i hi
  obtain ⟨A, sn, sc⟩ := s
  have hml : maxLen ≤ 9223372036854775807 := by decide
  rcases h2 with ⟨e, h0⟩ | ⟨g, cap, cur, e, _, hg, h3, h4, h5, h6⟩
  · simp only [Sl.v, Value.slice.injEq] at e
    obtain ⟨rfl, rfl, rfl⟩ := e;exact ⟨Nat.le_refl _, by simp⟩
  · simp only [Sl.v, Value.slice.injEq] at e
    obtain ⟨rfl, rfl, rfl⟩ := e
    dsimp only
    exact ⟨by omega, by omega⟩
theorem Sat.rdE {T : TypeId} (h : Sat w0 w Rs) (i : Nat) (hsz : ∀ x, (enc x).length = sz) (h0 : 0 < sz) (hi : Rs[i]? = some (SX.row s.v T sz (l.flatMap enc))) : RdE enc sz w s l := by
 have hn := h.rowL i hsz h0 hi
 obtain ⟨hc, hb⟩ := h.rowC i hi
 refine ⟨hn, by rw [← hn]; exact hc, by rw [← hn]; exact hb, fun j x hx => ?_⟩
 have hj := (List.getElem?_eq_some_iff.1 hx).1
 have hA := h.rowA i hi (by rw [flat_length hsz]; exact Nat.mul_pos (by omega) h0)
 have hof : of_ s = 0 := by simp [of_, hA]
 refine ⟨by rw [hof]; exact hA, fun o u hu => ?_⟩
 have ho := (List.getElem?_eq_some_iff.1 hu).1
 rw [hsz] at ho
 rw [hof, Nat.zero_add]
 exact (h.rdC i hi).cells _ _ ((flat_get (enc := enc) (o := o) hsz hx ho).trans hu)
end
section
variable {P : Program} {R : Array Oper} {n : Nat} {e : Env} {a : Act} {w : World}
theorem v_loadE {S : World → Prop} {i d : Nat} {t : TypeId} {x : Operand} {ty : TypeId} {b f : Nat} {vs : List Value} (h : Has n e a) (ho : AtW R i (.load t x) (some d) ty a) (hx : ev e x = some (.pointer (some ⟨b, f, none⟩)))
  (ht : aggSize P t = some vs.length) (hb : ∀ w, S w → ∀ (o : Nat) (u : Value), vs[o]? = some u → w.cell? ⟨b, f + o, none⟩ = some u) : Val P R i a S d (.agg vs.toArray) :=
 v_loadL h ho hx fun w hw => run_loadVar_agg ht fun i u hu => by rw [add0]; exact hb w hw i u hu
end
end SX
end Go.Proofs.Ytcbijhgepdedpaa
namespace Go.Proofs.Ytcbijhgepdedpaa.G
open Go.RowKit Go.Proofs.Ytcbijhgepdedpaa.SX Go.Proofs.YtcbijhgepdedpaaW.PrintWords Go.Proofs.YtcbijhgepdedpaaW.PrintLast Go.Proofs.YtcbijhgepdedpaaW.PrintMore
def mkG (k0 : Int) (n : Nat) : List Int := (List.range n).map fun (j : Nat) => k0 + (j : Int)
theorem mkG_len (k0 : Int) (n : Nat) : (mkG k0 n).length = n := by simp [mkG]
theorem mkG_at {k0 : Int} {n j : Nat} {k : Int} (hk : k = k0 + (j : Int)) (h : j < (mkG k0 n).length) : (mkG k0 n).getD j 0 = k := by
 rw [mkG_len] at h; unfold mkG; rw [List.getD_eq_getElem?_getD, List.getElem?_map, List.getElem?_range h, hk]; rfl
theorem set_drop {α : Type} {f : Nat → List α} {l : List α} {j : Nat} {x : α} (hf : (f j).length = j) (h : j < l.length) (hn : f (j + 1) = f j ++ [x]) : (f j ++ l.drop j).set j x = f (j + 1) ++ l.drop (j + 1) := by
 rw [List.set_append_right _ _ (by rw [hf]; exact Nat.le_refl _), hf, Nat.sub_self, List.drop_eq_getElem_cons h, List.set_cons_zero, hn, List.append_assoc]; rfl
theorem mkG_next {k0 : Int} {l : List Int} {j : Nat} {k : Int} (hk : k = k0 + (j : Int)) (h : j < l.length) : (mkG k0 j ++ l.drop j).set j k = mkG k0 (j + 1) ++ l.drop (j + 1) :=
 set_drop (mkG_len k0 j) h (by unfold mkG; rw [List.range_succ, List.map_append, hk]; rfl)
theorem mkG_some {k0 : Int} {l : List Int} {j : Nat} (h : j < l.length) : ∃ z, (mkG k0 j ++ l.drop j)[j]? = some z := ⟨_, List.getElem?_eq_getElem (by rw [List.length_append, mkG_len, List.length_drop]; omega)⟩
theorem getD_at {l : List Int} {n : Nat} {x : Int} (h : l[n]? = some x) : l.getD n 0 = x := by rw [List.getD_eq_getElem?_getD, h]; rfl
def cellsJ (x : Int) : List Value := [.int .i64 x]
def encJ (l : List Int) : List Value := l.flatMap cellsJ
theorem cellsJ_len (x : Int) : (cellsJ x).length = 1 := rfl
theorem encJ_length (l : List Int) : (encJ l).length = l.length * 1 := flat_length cellsJ_len l
theorem encJ_I (l : List Int) : encI l = encJ l := by
 induction l with
 | nil => rfl
 | cons x l ih => show Value.int .i64 x :: encI l = Value.int .i64 x :: encJ l; rw [ih]
theorem code25 : Try.f25.body = some (Code.seq (cr Try.f25 0 false) (Code.seq (Code.seq (cr Try.f25 1 false) (Code.cond (Operand.tmp 10) (Code.seq (cr Try.f25 2 false) Code.ret) Code.skip)) (Code.seq (Code.seq (cr Try.f25 3 false) (Code.block 0 (Code.loop (Code.seq (Code.seq (cr Try.f25 4 false) (Code.cond (Operand.tmp 14) Code.skip (Code.exit 0))) (Code.seq (Code.block 1 (Code.seq (cr Try.f25 6 true) (Code.cond (Operand.tmp 25) (Code.seq (cr Try.f25 7 false) Code.ret) Code.skip))) (cr Try.f25 5 false)))))) (Code.seq (cr Try.f25 8 false) Code.ret)))) := by kernel_rfl
theorem eqIntS_sat0 {w0 : World} {sa sb : Sl} {l : List Int} (hra : RdI w0 sa l) (hrb : RdI w0 sb l) :
  Calls Try.prog 25 #[.slice sa.A sa.n sa.c, .slice sb.A sb.n sb.c] w0 (Ret fun r w' => r = .bool true ∧ Sat w0 w' []) := by
 have hS : Sat w0 w0 [] := Sat.start w0
 have hbig := hra.big
 have hlen := hra.len
 have hlen2 := hrb.len
 refine enter (n := 26) Try.func25 code25 (by kernel_rfl) (Nat.le_of_ble_eq_true rfl) (fun a ha => ?_)
 replace ha : Has 26 [(0, .slice sa.A sa.n sa.c), (1, .slice sb.A sb.n sb.c)] a := ha
 refine wp_seq (jX [0] (jQ [(0, 4, .bool false)] ha fun a ha => ?_))
 refine jY (jJ (wp_seq (wp_seq (jX [0, 1, 2, 3, 4] (jQ [(0, 6, .slice sa.A sa.n sa.c), (1, 7, iv (sa.n : Int)), (2, 8, .slice sb.A sb.n sb.c), (3, 9, iv (sb.n : Int)), (4, 10, .bool (!(decide ((sa.n : Int) = (sb.n : Int)))))] ha fun a ha => ?_)))))
 refine jY (jJ ?_)
 by_cases c1 : (sa.n : Int) = (sb.n : Int)
 ·
  refine jV ha rfl (zX (decide_eq_true c1)) ?_
  refine wp_skip (jJ (wp_seq (wp_seq (jX [0] (jQ [(0, 5, iv 0)] ha fun a ha => ?_)))))
  refine jY (jJ (wp_block ?_))
  refine wp_loop_ghost (fun n_ a_ w_ => ∃ (i : Nat), n_ = l.length - i ∧ (i ≤ l.length) ∧ Has 26 [(0, .slice sa.A sa.n sa.c), (1, .slice sb.A sb.n sb.c), (5, iv (i : Int))] a_ ∧ Sat w0 w_ ([])) _ ⟨0, rfl, Nat.zero_le _, ha.keeps [0, 1, 5] _ rfl, hS⟩ ?_
  rintro n_ a w ⟨i, rfl, hi, ha, hS⟩
  refine wp_seq (wp_seq (jX [0, 1, 2, 3] (jQ [(0, 11, iv (i : Int)), (1, 12, .slice sa.A sa.n sa.c), (2, 13, iv (sa.n : Int)), (3, 14, .bool (decide ((i : Int) < (sa.n : Int))))] ha fun a ha => ?_)))
  refine jY (jJ ?_)
  by_cases c2 : (i : Int) < (sa.n : Int)
  ·
   have hlt : i < l.length := by omega
   obtain ⟨x9, hx9⟩ : ∃ x, l[i]? = some x := ⟨_, List.getElem?_eq_getElem hlt⟩;refine jG ha rfl (decide_eq_true c2) ?_;refine wp_skip (jJ (wp_seq (wp_block (wp_seq (xH 9 9 hS fun w hS => ?_)))));refine jK (k := 7) [(0, 17, .slice sa.A sa.n sa.c), (1, 18, iv (i : Int))] ha (.inr hS) fun a ha => ?_;refine zQ 2 (.pointer (some ⟨bk sa, of_ sa + i * 1, none⟩)) ha (kX (el := 3) (sz := 1) (j := i) ha (yU (t := 49) (x := 17) (y := 18) (d := 19)) rfl rfl (by kernel_rfl) (by kernel_rfl) ((hra.sat hS).at_ ((List.getElem?_eq_some_iff.1 hx9).1)).1 (by rw [((hra.sat hS)).len]; exact (List.getElem?_eq_some_iff.1 hx9).1)) (.inr hS) fun a ha => ?_;refine zH 3 (iv x9) ha (zK (p := ⟨bk sa, of_ sa + i * 1, none⟩) ha (zV (t := 3) (x := 19) (d := 20) (ty := 3)) rfl (by kernel_rfl) (fun w' hw => by rw [Nat.mul_one, ← getD_at hx9]; exact (((hra.sat hw)).at_ ((List.getElem?_eq_some_iff.1 hx9).1)).2)) hS fun a ha => ?_;refine jK (k := 3) [(4, 21, .slice sb.A sb.n sb.c), (5, 22, iv (i : Int))] ha (.inr hS) fun a ha => ?_;refine zQ 6 (.pointer (some ⟨bk sb, of_ sb + i * 1, none⟩)) ha (kX (el := 3) (sz := 1) (j := i) ha (yU (t := 49) (x := 21) (y := 22) (d := 23)) rfl rfl (by kernel_rfl) (by kernel_rfl) ((hrb.sat hS).at_ ((List.getElem?_eq_some_iff.1 hx9).1)).1 (by rw [((hrb.sat hS)).len]; exact (List.getElem?_eq_some_iff.1 hx9).1)) (.inr hS) fun a ha => ?_;refine zH 7 (iv x9) ha (zK (p := ⟨bk sb, of_ sb + i * 1, none⟩) ha (zV (t := 3) (x := 23) (d := 24) (ty := 3)) rfl (by kernel_rfl) (fun w' hw => by rw [Nat.mul_one, ← getD_at hx9]; exact (((hrb.sat hw)).at_ ((List.getElem?_eq_some_iff.1 hx9).1)).2)) hS fun a ha => ?_;refine zQ 8 (.bool false) ha ((qZ (v := .bool (!(decide (x9 = x9)))) ha (zW (op := (Op.binOp BinOp.neq 3 (Operand.tmp 20) (Operand.tmp 24) 3)) (d := some 25) (ty := 4)) (by kernel_rfl) (fun _ => by kernel_rfl)).as (by simp)) (.inr hS) fun a ha => ?_;refine xX (jJ ?_);refine jV ha rfl rfl ?_;refine wp_skip (in_n (jJ (jX [0, 1, 2] (jQ [(0, 15, iv (i : Int))] ha fun a ha => ?_))));refine zJ 16 ((i : Int) + 1) ha fun a ha => ?_;refine jQ [(2, 5, iv ((i : Int) + 1))] ha fun a ha => ?_;refine jY (jJ ?_);exact ⟨_, by omega, i + 1, rfl, by omega, ha.keeps [0, 1, 5] _ rfl, hS⟩
  refine jV ha rfl (decide_eq_false c2) ?_
  refine wp_exit (yX (yX (in_x (jJ (wp_seq (jX [0] (jQ [(0, 4, .bool true)] ha fun a ha => ?_)))))))
  refine jY (jJ (wp_ret (qK ha (by kernel_rfl) (yJ (t := 4) ha rfl) ?_)))
  exact ⟨rfl, hS⟩
 refine jG ha rfl (kJ (decide_eq_false c1)) ?_
 refine wp_seq (jX [0] (jQ [(0, 4, .bool false)] ha fun a ha => ?_))
 refine jY (jJ (wp_ret (xQ ?_)))
 exfalso; omega
theorem eqIntS_sat {w0 w : World} {Rs : List Asn} {sa sb : Sl} {l : List Int} (hS : Sat w0 w Rs) (hra : RdI w sa l) (hrb : RdI w sb l) :
  Calls Try.prog 25 #[.slice sa.A sa.n sa.c, .slice sb.A sb.n sb.c] w (Ret fun r w' => r = .bool true ∧ Sat w0 w' Rs) := lift0 hS (eqIntS_sat0 hra hrb)
theorem code26 : Try.f26.body = some (Code.seq (cr Try.f26 0 false) (Code.seq (Code.seq (cr Try.f26 1 false) (Code.block 0 (Code.loop (Code.seq (Code.seq (cr Try.f26 2 false) (Code.cond (Operand.tmp 9) Code.skip (Code.exit 0))) (Code.seq (Code.block 1 (Code.seq (cr Try.f26 4 false) (cr Try.f26 5 false))) (cr Try.f26 3 false)))))) (Code.seq (cr Try.f26 6 false) Code.ret))) := by kernel_rfl
theorem markG_sat {w0 w : World} {Rs : List Asn} {o : Sl} {l : List Int} {k0 : Int} (hS : Sat w0 w (SX.row (.slice o.A o.n o.c) 3 1 (encI l) :: Rs)) (h0 : 0 ≤ k0) (h1 : k0 ≤ 100000000) (hl : l.length ≤ 4000000) :
  Calls Try.prog 26 #[.slice o.A o.n o.c, .int .i64 k0] w (Ret fun r w' => r = .int .i64 (k0 + (l.length : Int)) ∧ Sat w0 w' (SX.row (.slice o.A o.n o.c) 3 1 (encI (mkG k0 l.length)) :: Rs)) := by
 have hlen := (hS.rdRow (s := o) 0 rfl).len
 replace hS : Sat w0 w (SX.row (.slice o.A o.n o.c) 3 1 (encJ l) :: Rs) := by rw [← encJ_I]; exact hS
 refine enter (n := 19) Try.func26 code26 (by kernel_rfl) (Nat.le_of_ble_eq_true rfl) (fun a ha => ?_)
 replace ha : Has 19 [(0, .slice o.A o.n o.c), (1, iv k0)] a := ha
 refine wp_seq (jX [0] (jQ [(0, 4, iv 0)] ha fun a ha => ?_))
 refine jY (jJ (wp_seq (wp_seq (jX [0] (jQ [(0, 5, iv 0)] ha fun a ha => ?_)))))
 refine jY (jJ (wp_block ?_))
 replace hS : Sat w0 w ((SX.row (.slice o.A o.n o.c) 3 1 (encJ (mkG k0 0 ++ l.drop 0))) :: Rs) := hS
 refine wp_loop_ghost (fun n_ a_ w_ => ∃ (i : Nat) (k : Int), n_ = l.length - i ∧ (i ≤ l.length) ∧ (k = k0 + (i : Int)) ∧ Has 19 [(0, .slice o.A o.n o.c), (1, iv k), (5, iv (i : Int))] a_ ∧ Sat w0 w_ ((SX.row (.slice o.A o.n o.c) 3 1 (encJ (mkG k0 i ++ l.drop i))) :: Rs)) _ ⟨0, k0, rfl, Nat.zero_le _, by omega, ha.keeps [0, 1, 5] _ rfl, hS⟩ ?_
 rintro n_ a w ⟨i, k, rfl, hi, hk, ha, hS⟩
 refine wp_seq (wp_seq (jX [0, 1, 2, 3] (jQ [(0, 6, iv (i : Int)), (1, 7, .slice o.A o.n o.c), (2, 8, iv (o.n : Int)), (3, 9, .bool (decide ((i : Int) < (o.n : Int))))] ha fun a ha => ?_)))
 refine jY (jJ ?_)
 by_cases c1 : (i : Int) < (o.n : Int)
 ·
  have hlt : i < l.length := by omega
  obtain ⟨z, hz⟩ := mkG_some (k0 := k0) hlt
  refine jG ha rfl (decide_eq_true c1) ?_
  refine wp_skip (jJ (wp_seq (wp_block (wp_seq (jX [0, 1, 2, 3, 4] (jQ [(0, 12, .slice o.A o.n o.c), (1, 13, iv (i : Int)), (2, 14, iv k)] ha fun a ha => ?_))))))
  refine xU (.pointer (some ⟨bk o, i * 1, none⟩)) ha (xW (s := o) (el := 3) (sz := 1) (j := i) ha (yU (t := 49) (x := 12) (y := 13) (d := 15)) rfl rfl (by kernel_rfl) (by kernel_rfl) (hS.rowA (s := o) 0 rfl (by have := (List.getElem?_eq_some_iff.1 hz).1; rw [encJ_length]; omega)) (rfl) (by have h9 := hS.rowL (s := o) (enc := cellsJ) 0 cellsJ_len (by decide) rfl; have := (List.getElem?_eq_some_iff.1 hz).1; omega)) fun a ha => ?_
  refine jZ (zZ (s := o) (j := i * 1 + 0) (xs := encJ (mkG k0 i ++ l.drop i)) (xs' := encJ ((mkG k0 i ++ l.drop i).set i k)) 0 ha (qU (t := 3) (x := 15) (y := 14)) rfl rfl rfl (by kernel_rfl) hS rfl (by have := (List.getElem?_eq_some_iff.1 hz).1; rw [encJ_length]; omega) ((flat_set (enc := cellsJ) (x' := k) cellsJ_len hz (by decide) rfl)) (fun w a (hS : Sat w0 w ((SX.row (.slice o.A o.n o.c) 3 1 (encJ ((mkG k0 i ++ l.drop i).set i k))) :: Rs)) ha => ?_))
  refine jY (jJ (jX [0, 1, 2] (jQ [(0, 16, iv k)] ha fun a ha => ?_)))
  refine zJ 17 (k + 1) ha fun a ha => ?_
  refine jQ [(2, 1, iv (k + 1))] ha fun a ha => ?_
  refine jY (in_n (jJ (jX [0, 1, 2] (jQ [(0, 10, iv (i : Int))] ha fun a ha => ?_))))
  refine zJ 11 ((i : Int) + 1) ha fun a ha => ?_
  refine jQ [(2, 5, iv ((i : Int) + 1))] ha fun a ha => ?_
  refine jY (jJ ?_)
  replace hS : Sat w0 w ((SX.row (.slice o.A o.n o.c) 3 1 (encJ (mkG k0 (i + 1) ++ l.drop (i + 1)))) :: Rs) := by rw [← mkG_next hk (by omega)]; exact hS
  exact ⟨_, by omega, i + 1, k + 1, rfl, by omega, by omega, ha.keeps [0, 1, 5] _ rfl, hS⟩
 refine jV ha rfl (decide_eq_false c1) ?_
 refine wp_exit (yX (yX (in_x (jJ (wp_seq (jX [0, 1] (jQ [(0, 18, iv k), (1, 4, iv k)] ha fun a ha => ?_)))))))
 refine jY (jJ (wp_ret (qK ha (by kernel_rfl) (yJ (t := 4) ha rfl) ?_)))
 obtain rfl : i = l.length := by omega
 rw [List.drop_length, List.append_nil] at hS
 exact ⟨by rw [hk], by rw [encJ_I]; exact hS⟩
theorem code27 : Try.f27.body = some (Code.seq (cr Try.f27 0 false) (Code.seq (Code.seq (cr Try.f27 1 false) (Code.block 0 (Code.loop (Code.seq (Code.seq (cr Try.f27 2 false) (Code.cond (Operand.tmp 9) Code.skip (Code.exit 0))) (Code.seq (Code.block 1 (Code.seq (Code.seq (cr Try.f27 4 false) (Code.cond (Operand.tmp 17) (Code.seq (cr Try.f27 5 false) Code.ret) Code.skip)) (cr Try.f27 6 false))) (cr Try.f27 3 false)))))) (Code.seq (cr Try.f27 7 false) Code.ret))) := by kernel_rfl
theorem heldI_sat0 {w0 : World} {o : Sl} {n : Nat} {k0 : Int} (hra : RdI w0 o (mkG k0 n)) (hl : n ≤ 4000000) (h0 : 0 ≤ k0 := by omega) (h1 : k0 ≤ 100000000 := by omega) :
  Calls Try.prog 27 #[.slice o.A o.n o.c, .int .i64 k0] w0 (Ret fun r w' => r = .int .i64 (k0 + (n : Int)) ∧ Sat w0 w' []) := by
 have hS : Sat w0 w0 [] := Sat.start w0
 have hlen := hra.len
 rw [mkG_len] at hlen
 refine enter (n := 21) Try.func27 code27 (by kernel_rfl) (Nat.le_of_ble_eq_true rfl) (fun a ha => ?_)
 replace ha : Has 21 [(0, .slice o.A o.n o.c), (1, iv k0)] a := ha
 refine wp_seq (jX [0] (jQ [(0, 4, iv 0)] ha fun a ha => ?_))
 refine jY (jJ (wp_seq (wp_seq (jX [0] (jQ [(0, 5, iv 0)] ha fun a ha => ?_)))))
 refine jY (jJ (wp_block ?_))
 refine wp_loop_ghost (fun n_ a_ w_ => ∃ (i : Nat) (k : Int), n_ = n - i ∧ (i ≤ n) ∧ (k = k0 + (i : Int)) ∧ Has 21 [(0, .slice o.A o.n o.c), (1, iv k), (5, iv (i : Int))] a_ ∧ Sat w0 w_ ([])) _ ⟨0, k0, rfl, Nat.zero_le _, by omega, ha.keeps [0, 1, 5] _ rfl, hS⟩ ?_
 rintro n_ a w ⟨i, k, rfl, hi, hk, ha, hS⟩
 refine wp_seq (wp_seq (jX [0, 1, 2, 3] (jQ [(0, 6, iv (i : Int)), (1, 7, .slice o.A o.n o.c), (2, 8, iv (o.n : Int)), (3, 9, .bool (decide ((i : Int) < (o.n : Int))))] ha fun a ha => ?_)))
 refine jY (jJ ?_)
 by_cases c1 : (i : Int) < (o.n : Int)
 ·
  refine jG ha rfl (decide_eq_true c1) ?_
  refine wp_skip (jJ (wp_seq (wp_block (wp_seq (wp_seq (jX [0, 1, 2, 3, 4, 5] (jQ [(0, 12, .slice o.A o.n o.c), (1, 13, iv (i : Int))] ha fun a ha => ?_)))))))
  refine xU (.pointer (some ⟨bk o, of_ o + i * 1, none⟩)) ha (kX (el := 3) (sz := 1) (j := i) ha (yU (t := 49) (x := 12) (y := 13) (d := 14)) rfl rfl (by kernel_rfl) (by kernel_rfl) ((hra.sat hS).at_ (show i < (mkG k0 n).length by rw [mkG_len]; omega)).1 (by rw [((hra.sat hS)).len]; exact (show i < (mkG k0 n).length by rw [mkG_len]; omega))) fun a ha => ?_
  refine xU (iv k) ha (zK (p := ⟨bk o, of_ o + i * 1, none⟩) ha (zV (t := 3) (x := 14) (d := 15) (ty := 3)) rfl (by kernel_rfl) (fun w' hw => by rw [hw, Nat.mul_one, ← mkG_at hk (show i < (mkG k0 n).length by rw [mkG_len]; omega)]; exact ((hra.sat hS).at_ (show i < (mkG k0 n).length by rw [mkG_len]; omega)).2)) fun a ha => ?_
  refine jQ [(4, 16, iv k)] ha fun a ha => ?_
  refine xU (.bool false) ha ((qZ (v := .bool (!(decide (k = k)))) ha (zW (op := (Op.binOp BinOp.neq 3 (Operand.tmp 15) (Operand.tmp 16) 3)) (d := some 17) (ty := 4)) (by kernel_rfl) (fun _ => by kernel_rfl)).as (by simp)) fun a ha => ?_
  refine jY (jJ ?_)
  refine jV ha rfl rfl ?_
  refine wp_skip (jJ (jX [0, 1, 2] (jQ [(0, 18, iv k)] ha fun a ha => ?_)))
  refine zJ 19 (k + 1) ha fun a ha => ?_
  refine jQ [(2, 1, iv (k + 1))] ha fun a ha => ?_
  refine jY (in_n (jJ (jX [0, 1, 2] (jQ [(0, 10, iv (i : Int))] ha fun a ha => ?_))))
  refine zJ 11 ((i : Int) + 1) ha fun a ha => ?_
  refine jQ [(2, 5, iv ((i : Int) + 1))] ha fun a ha => ?_
  refine jY (jJ ?_)
  exact ⟨_, by omega, i + 1, k + 1, rfl, by omega, by omega, ha.keeps [0, 1, 5] _ rfl, hS⟩
 refine jV ha rfl (decide_eq_false c1) ?_
 refine wp_exit (yX (yX (in_x (jJ (wp_seq (jX [0, 1] (jQ [(0, 20, iv k), (1, 4, iv k)] ha fun a ha => ?_)))))))
 refine jY (jJ (wp_ret (qK ha (by kernel_rfl) (yJ (t := 4) ha rfl) ?_)))
 obtain rfl : i = n := by omega
 exact ⟨by rw [hk], hS⟩
theorem heldI_sat {w0 w : World} {Rs : List Asn} {o : Sl} {n : Nat} {k0 : Int} (hS : Sat w0 w Rs) (hra : RdI w o (mkG k0 n)) (hl : n ≤ 4000000) (h0 : 0 ≤ k0 := by omega) (h1 : k0 ≤ 100000000 := by omega) :
  Calls Try.prog 27 #[.slice o.A o.n o.c, .int .i64 k0] w (Ret fun r w' => r = .int .i64 (k0 + (n : Int)) ∧ Sat w0 w' Rs) := lift0 hS (heldI_sat0 hra hl h0 h1)
def cellsB (x : Bool × Int) : List Value := [.bool x.1, .int .i64 x.2]
def encB (l : List (Bool × Int)) : List Value := l.flatMap cellsB
theorem cellsB_len (x : Bool × Int) : (cellsB x).length = 2 := rfl
theorem encB_length (l : List (Bool × Int)) : (encB l).length = l.length * 2 := flat_length cellsB_len l
theorem encB_snoc (l : List (Bool × Int)) (x : Bool) (y : Int) : encB l ++ [.bool x, .int .i64 y] = encB (l ++ [(x, y)]) := by simp [encB, cellsB]
def cellsU (x : Sl × List Int) : List Value := [.slice x.1.A x.1.n x.1.c]
def encU (l : List (Sl × List Int)) : List Value := l.flatMap cellsU
theorem cellsU_len (x : Sl × List Int) : (cellsU x).length = 1 := rfl
theorem encU_length (l : List (Sl × List Int)) : (encU l).length = l.length * 1 := flat_length cellsU_len l
theorem encU_snoc (l : List (Sl × List Int)) (s : Sl) (x : List Int) : encU l ++ [.slice s.A s.n s.c] = encU (l ++ [(s, x)]) := by simp [encU, cellsU]
theorem encU_same {us : List (Sl × List Int)} {j : Nat} {a b : Sl × List Int} (h : a.1 = b.1) : encU (us.set j a) = encU (us.set j b) := by
 have e : cellsU a = cellsU b := by unfold cellsU; rw [h]
 unfold encU
 rw [List.flatMap_def, List.flatMap_def, List.map_set, List.map_set, e]
theorem encJ_snocE (l : List Int) (x : Int) : encJ l ++ [.int .i64 x] = encJ (l ++ [x]) := by simp [encJ, cellsJ]
theorem flat_one {α : Type} {enc : α → List Value} (h : ∀ x, (enc x).all Value.oneCell' = true) : ∀ l : List α, (l.flatMap enc).all Value.oneCell' = true
 | [] => rfl
 | x :: l => by rw [List.flatMap_cons, List.all_append, h x, flat_one h l]; rfl
theorem flat_all {α : Type} {enc : α → List Value} {sz : Nat} (hsz : ∀ x, (enc x).length = sz) {l : List α} {m : Nat} (h : m = l.length) : (l.flatMap enc).take (m * sz) = l.flatMap enc := by rw [flat_take hsz, h, List.take_length]
def unwN (x : Sl × List Int) : Asn := SX.row (.slice x.1.A x.1.n x.1.c) 3 1 (encJ x.2)
abbrev RB (b : Nat) (ca pa de un re rp be : Sl) : Asn := SX.blk b [.slice ca.A ca.n ca.c, .slice pa.A pa.n pa.c, .slice de.A de.n de.c, .slice un.A un.n un.c, .slice re.A re.n re.c, .slice rp.A rp.n rp.c, .slice be.A be.n be.c] 107
abbrev RB0 (b : Nat) : Asn := SX.blk b [.slice none 0 0, .slice none 0 0, .slice none 0 0, .slice none 0 0, .slice none 0 0, .slice none 0 0, .slice none 0 0] 107
abbrev RwB (s : Sl) (l : List (Bool × Int)) : Asn := SX.row (.slice s.A s.n s.c) 149 2 (encB l)
abbrev RwE (s : Sl) (l : List (Int × Int × Int)) : Asn := SX.row (.slice s.A s.n s.c) 109 3 (encE l)
abbrev RwJ (s : Sl) (l : List Int) : Asn := SX.row (.slice s.A s.n s.c) 3 1 (encJ l)
abbrev RwU (s : Sl) (l : List (Sl × List Int)) : Asn := SX.row (.slice s.A s.n s.c) 49 1 (encU l)
abbrev RwR (s : Sl) (l : List (Int × Int)) : Asn := SX.row (.slice s.A s.n s.c) 61 2 (encR l)
structure RV where
 ca : Sl
 pa : Sl
 de : Sl
 un : Sl
 re : Sl
 rp : Sl
 be : Sl
structure RX where
 dep : List Int
 uw : List (Sl × List Int)
 rcs : List (Int × Int)
 rep : List Int
structure RXok (n : Nat) (c : List (Bool × Int)) (p : List (Int × Int × Int)) (b : List Int) (X : RX) : Prop where
 kc : c.length ≤ n
 kp : p.length ≤ n
 kd : X.dep.length ≤ n
 ku : X.uw.length = p.length
 kr : X.rcs.length ≤ n
 krp : X.rep.length = p.length
 kb : b.length = p.length
 kul : ∀ x ∈ X.uw, x.2.length ≤ n
def rdL (V : RV) (c : List (Bool × Int)) (p : List (Int × Int × Int)) (b : List Int) (X : RX) : List Asn :=
  [SX.row (.slice V.ca.A V.ca.n V.ca.c) 149 2 (encB c), SX.row (.slice V.pa.A V.pa.n V.pa.c) 109 3 (encE p), SX.row (.slice V.de.A V.de.n V.de.c) 3 1 (encJ X.dep), SX.row (.slice V.un.A V.un.n V.un.c) 49 1 (encU X.uw),
   jW (X.uw.map unwN), SX.row (.slice V.re.A V.re.n V.re.c) 61 2 (encR X.rcs), SX.row (.slice V.rp.A V.rp.n V.rp.c) 3 1 (encJ X.rep), SX.row (.slice V.be.A V.be.n V.be.c) 3 1 (encJ b)]
def rdA (V : RV) (n : Nat) (r : RS) : Asn := exA fun X : { X : RX // RXok n r.calls r.pans r.before X } => jW (rdL V r.calls r.pans r.before X.1)
section
variable {w0 w : World} {Rs : List Asn}
theorem openRd {V : RV} {n : Nat} {c : List (Bool × Int)} {p : List (Int × Int × Int)} {b : List Int} (h : Sat w0 w (rdA V n ⟨c, p, b⟩ :: Rs)) : ∃ X : RX, RXok n c p b X ∧ Sat w0 w (rdL V c p b X ++ Rs) := by
 obtain ⟨⟨X, hX⟩, h⟩ := h.open_ 0 rfl
 exact ⟨X, hX, h.split⟩
theorem shutRd {V : RV} {n : Nat} {c : List (Bool × Int)} {p : List (Int × Int × Int)} {b : List Int} (X : RX) (hX : RXok n c p b X) (h : Sat w0 w (rdL V c p b X ++ Rs)) : Sat w0 w (rdA V n ⟨c, p, b⟩ :: Rs) :=
 h.merge.shut (R := fun X : { X : RX // RXok n c p b X } => jW (rdL V c p b X.1)) ⟨X, hX⟩ 0 rfl
theorem rd_ns {V : RV} {c : List (Bool × Int)} {p : List (Int × Int × Int)} {b : List Int} {X : RX} (hS : Sat w0 w (rdL V c p b X ++ Rs)) : V.ca.n = c.length ∧ V.pa.n = p.length ∧ V.de.n = X.dep.length ∧ V.un.n = X.uw.length ∧ V.re.n = X.rcs.length ∧ V.rp.n = X.rep.length ∧ V.be.n = b.length :=
 ⟨hS.rowL (s := V.ca) (enc := cellsB) 0 cellsB_len (by decide) rfl, hS.rowL (s := V.pa) (enc := cellsE) 1 zU (by decide) rfl, hS.rowL (s := V.de) (enc := cellsJ) 2 cellsJ_len (by decide) rfl, hS.rowL (s := V.un) (enc := cellsU) 3 cellsU_len (by decide) rfl, hS.rowL (s := V.re) (enc := cellsR) 5 yG (by decide) rfl, hS.rowL (s := V.rp) (enc := cellsJ) 6 cellsJ_len (by decide) rfl, hS.rowL (s := V.be) (enc := cellsJ) 7 cellsJ_len (by decide) rfl⟩
theorem rdA_up {V : RV} {n : Nat} {r : RS} (h : Sat w0 w (rdA V n r :: Rs)) : Sat w0 w (rdA V (n + 1) r :: Rs) := by
 obtain ⟨X, hX, h1⟩ := openRd (c := r.calls) (p := r.pans) (b := r.before) h
 exact shutRd (c := r.calls) (p := r.pans) (b := r.before) X ⟨Nat.le_succ_of_le hX.kc, Nat.le_succ_of_le hX.kp, Nat.le_succ_of_le hX.kd, hX.ku, Nat.le_succ_of_le hX.kr, hX.krp, hX.kb, fun x hx => Nat.le_succ_of_le (hX.kul x hx)⟩ h1
theorem nilU {us : List (Sl × List Int)} {s : Sl} (hs : s = ⟨s.A, 0, 0⟩) (h : Sat w0 w (SX.row (.slice s.A s.n s.c) 3 1 (encJ []) :: jW (us.map unwN) :: Rs)) : Sat w0 w (jW ((us ++ [(s, [])]).map unwN) :: Rs) := by
 have h2 := Sat.gainLast (R := unwN (s, [])) h
 simpa using h2
end
theorem ul_snoc {us : List (Sl × List Int)} {n : Nat} {s : Sl} (h : ∀ x ∈ us, x.2.length ≤ n) : ∀ x ∈ us ++ [(s, ([] : List Int))], x.2.length ≤ n + 1 := fun x hx => by
 rcases List.mem_append.1 hx with h1 | h1
 · exact Nat.le_succ_of_le (h x h1)
 · rw [List.mem_singleton.1 h1]; exact Nat.zero_le _
theorem ul_set {us : List (Sl × List Int)} {n j : Nat} {y : Sl × List Int} (h : ∀ x ∈ us, x.2.length ≤ n) (hy : y.2.length ≤ n + 1) : ∀ x ∈ us.set j y, x.2.length ≤ n + 1 := fun x hx => by
 rcases List.mem_or_eq_of_mem_set hx with h1 | h1
 · exact Nat.le_succ_of_le (h x h1)
 · rw [h1]; exact hy
theorem ul_up {us : List (Sl × List Int)} {n : Nat} (h : ∀ x ∈ us, x.2.length ≤ n) : ∀ x ∈ us, x.2.length ≤ n + 1 := fun x hx => Nat.le_succ_of_le (h x hx)
theorem set_mod3 {p : List (Int × Int × Int)} {j : Nat} {x : Int × Int × Int} {f : Int} (h : p[j]? = some x) : p.set j (x.1, x.2.1, f) = p.modify j fun z => (z.1, z.2.1, f) := by
  refine List.ext_getElem? fun k => ?_
  rw [List.getElem?_set, List.getElem?_modify]
  by_cases e : j = k
  · subst e
    rw [if_pos rfl, if_pos (List.getElem?_eq_some_iff.1 h).1, h]; simp
  · rw [if_neg e]; cases p[k]? <;> simp [e]
theorem callAt_of {c : List (Bool × Int)} {p : List (Int × Int × Int)} {b : List Int} {j : Nat} {x : Bool × Int} (h : c[c.length - j]? = some x) : callAt ⟨c, p, b⟩ j = x := by
 unfold callAt; rw [List.getD_eq_getElem?_getD, h]; rfl
theorem putAt_of {c : List (Bool × Int)} {p : List (Int × Int × Int)} {b : List Int} {j : Nat} {x : Bool × Int} {on : Int} (h : c[c.length - j]? = some x) : SX.putAt ⟨c, p, b⟩ j on = ⟨c.set (c.length - j) (x.1, on), p, b⟩ := by
 unfold SX.putAt; rw [callAt_of h]
end Go.Proofs.Ytcbijhgepdedpaa.G
namespace Go.Proofs.Ytcbijhgepdedpaa
namespace SX
open Go.RowKit
section
variable {P : Program} {R : Array Oper} {Q : Exit → Act → World → Prop} {n : Nat} {e : Env} {a : Act} {w w0 : World} {Rs : List Asn}
theorem o_appI {i d : Nat} {s x : Operand} {t el ty : TypeId} {v : Value} {bytes : Nat} {s2 : Sl} {xs ys : List Int} {z : Value} {T2 : TypeId} {K : Act → World → Prop} (p q : Nat) (h : Has n e a) (hd : d < n)
    (ho : AtW R i (.call { callee := .builtin .append, args := #[s, x], argTypes := #[t, t] }) (some d) ty a) (hs : ev e s = some v) (hx : ev e x = some (.slice s2.A s2.n s2.c))
    (ht : P.underlying t = some (.slice el)) (hinfo : (P.info? el).map (fun i => (i.zero, i.size, i.bytes)) = some (some z, 1, bytes)) (hz : z.cells.size = 1)
    (hS : Sat w0 w Rs) (hp : Rs[p]? = some (SX.row v el 1 (encI xs))) (hq : Rs[q]? = some (SX.row (.slice s2.A s2.n s2.c) T2 1 (encI ys))) (hlen : xs.length + ys.length ≤ 1000000000) (hby : bytes ≤ 100000)
    (k : ∀ (z : Sl) w' a', Sat w0 w' (Rs.set p (SX.row (.slice z.A z.n z.c) el 1 (encI (xs ++ ys)))) → Has n ((d, .slice z.A z.n z.c) :: e) a' → K a' w') : wpOp P R Q i K a w := by
  obtain ⟨i0, hi, hzz⟩ := Option.map_eq_some_iff.1 hinfo
  simp only [Prod.mk.injEq] at hzz
  obtain ⟨hz0, hz1, hz2⟩ := hzz
  have hpl : p < Rs.length := (List.getElem?_eq_some_iff.1 hp).1
  obtain ⟨nx, hown⟩ := hS.row p hp
  have hl := hown.1
  rw [encI_length] at hl
  have hr := hS.rdRow (s := s2) q hq
  have hn2 := hr.len
  have happ : encI xs ++ encI ys = encI (xs ++ ys) := by simp [encI]
  have key : ∀ ad : Addr, s2.A = some ad → (∀ j u, (encI ys)[j]? = some u → w.cell? (ad.add j) = some u) → wpOp P R Q i K a w := by
    intro ad hA hcells;have h1 : ∀ u ∈ encI ys, u.oneCell' = true := fun u hu => by obtain ⟨y, _, rfl⟩ := List.mem_map.1 hu; rfl
    have hbytes : (nx + s2.n) * bytes ≤ 140737488355328 := by
      have h2 : (nx + s2.n) * bytes ≤ (nx + s2.n) * 100000 := Nat.mul_le_mul_left _ hby
      omega
    obtain ⟨v', w', hrn, h2, h3, h4, h5⟩ := run_append_own_at (P := P) w 0 t ty el i0 z 1 bytes ht hi hz0 hz1 hz2 hz (by decide) v nx (encI xs) hown ad s2.n s2.c (encI ys) (by rw [encI_length, hn2]; omega) hcells h1 (by simp only [maxLen]; omega) hbytes (Nat.zero_le _)
    have hrun : (execOp (evD e) (opr (.call { callee := .builtin .append, args := #[s, x], argTypes := #[t, t] }) ty)).run P w = .ok (.value v') w' := by
      rw [hA] at hx
      simp [execOp, opr, resolve, invoke, builtin, evD, hs, hx, hrn]
    have hS' : Sat w0 w' (Rs.set p (SX.row v' el 1 (encI xs ++ encI ys))) := by
      refine hS.upd hp _ h3.os h3.tape h3.output h3.size fun F hF => ⟨fun k => v'.ownBlock = some k, ⟨fun _ => Iff.rfl, _, h2⟩, fun k hk => ?_, fun k hk hF' => h3.block k hk fun e => hF' ((hF.1 k).2 e.symm)⟩
      rcases h5 with h5 | h5
      · exact .inl ((hF.1 k).2 (by rw [← h5]; exact hk))
      · rw [h5] at hk
        injection hk with hk
        exact .inr (by omega)
    rw [happ] at hS'
    obtain ⟨A, nn, cc, rfl, hnn⟩ : ∃ A nn cc, v' = .slice A nn cc ∧ nn = nx + s2.n := by
      rcases h2.2 with ⟨rfl, hn0⟩ | ⟨g, cap, cur, rfl, _⟩
      · exact ⟨none, 0, 0, rfl, hn0.symm⟩
      · exact ⟨_, _, cap, rfl, rfl⟩
    exact o_val h hd ho (by simp [covers, Op.operands, Call.operands, hs, hx, notSelect]) hrun fun a' ha => k ⟨A, nn, cc⟩ w' a' hS' ha
  cases hA : s2.A with
  | some ad =>
    refine key ad hA fun j u hu => ?_;have hj : j < ys.length := by have := (List.getElem?_eq_some_iff.1 hu).1; rwa [encI_length] at this
    obtain ⟨e1, e2⟩ := hr.at_ hj;rw [hA] at e1
    injection e1 with e1
    subst e1
    have hu2 : u = .int .i64 (ys.getD j 0) := by
      have h9 : (encI ys)[j]? = some (.int .i64 (ys.getD j 0)) := by simp [encI, List.getElem?_map, List.getElem?_eq_getElem hj, List.getD_eq_getElem?_getD]
      exact (Option.some.inj (hu.symm.trans h9))
    rw [hu2, add0];exact e2
  | none =>
    have hy0 : ys = [] := by
      by_cases h0 : 0 < ys.length
      · have := (hr.at_ h0).1; rw [hA] at this; cases this
      · exact List.eq_nil_of_length_eq_zero (by omega)
    subst hy0
    obtain ⟨h9, h8⟩ : s2.n = 0 ∧ s2.c = 0 := by
      obtain ⟨n9, hown9⟩ := hS.row q hq
      rcases hown9.2 with ⟨e9, _⟩ | ⟨g, cap, cur, e9, _⟩
      · simp only [Value.slice.injEq] at e9; exact ⟨e9.2.1, e9.2.2⟩
      · simp only [Value.slice.injEq] at e9; rw [hA] at e9; cases e9.1
    rw [hA, h9, h8] at hx;have hrn := run_append_owned_none (P := P) (w := w) 0 t ty el i0 1 ht hi _ _ _ hown
    have hrun : (execOp (evD e) (opr (.call { callee := .builtin .append, args := #[s, x], argTypes := #[t, t] }) ty)).run P w = .ok (.value v) w := by
      simp [execOp, opr, resolve, invoke, builtin, evD, hs, hx, hrn]
    obtain ⟨A, nn, cc, rfl⟩ : ∃ A nn cc, v = .slice A nn cc := by
      rcases hown.2 with ⟨rfl, hn0⟩ | ⟨g, cap, cur, rfl, _⟩
      · exact ⟨none, 0, 0, rfl⟩
      · exact ⟨_, _, cap, rfl⟩
    refine o_val h hd ho (by simp [covers, Op.operands, Call.operands, hs, hx, notSelect]) hrun fun a' ha => k ⟨A, nn, cc⟩ w a' ?_ ha;rw [List.append_nil]
    have h7 : Rs.set p (SX.row (.slice A nn cc) el 1 (encI xs)) = Rs := by
      refine List.ext_getElem? fun j => ?_
      by_cases hj : p = j
      · subst hj; rw [List.getElem?_set_self hpl, hp]
      · rw [List.getElem?_set_ne hj]
    show Sat w0 w (Rs.set p (SX.row (.slice A nn cc) el 1 (encI xs)))
    rw [h7]; exact hS
end
end SX
end Go.Proofs.Ytcbijhgepdedpaa
namespace Go.Proofs.Ytcbijhgepdedpaa.G
open Go.RowKit Go.Proofs.Ytcbijhgepdedpaa.SX Go.Proofs.YtcbijhgepdedpaaW.PrintWords Go.Proofs.YtcbijhgepdedpaaW.PrintLast Go.Proofs.YtcbijhgepdedpaaW.PrintMore
def arrI (m : MS) : Nat := m.panics.findIdx fun x => decide (x.fate = 3)
theorem arr_idx {m : MS} {k0 : Nat} (h : Chn m k0) : arrI m = k0 := by
  unfold arrI
  refine (List.findIdx_eq h.lt).2 ⟨?_, fun j hj => ?_⟩
  · rw [decide_eq_true_eq]
    exact (h.fa k0 _ (List.getElem?_eq_getElem h.lt)).2 rfl
  · rw [decide_eq_false_iff_not]
    intro h9;have := (h.fa j _ (List.getElem?_eq_getElem (by have := h.lt; omega))).1 h9
    omega
def chainOf (m : MS) : List Int := chainR m (arrI m)
theorem R4_pans : ∀ (t : List (Int × Int × Int)) (r : RS), (t.foldl stepR r).pans.length ≤ r.pans.length + t.length
  | [], r => Nat.le_refl _
  | e :: t, r => by
    rw [List.foldl_cons];have h1 := R4_pans t (stepR r e)
    have h2 : (stepR r e).pans.length ≤ r.pans.length + 1 := by
      unfold stepR
      by_cases k1 : e.1 = 1 ∨ e.1 = 3
      · rw [if_pos k1]; exact Nat.le_succ _
      rw [if_neg k1]
      by_cases k5 : e.1 = 5
      · rw [if_pos k5]; unfold panR SX.putAt; simp
      rw [if_neg k5]
      by_cases k6 : e.1 = 6
      · rw [if_pos k6]; unfold recR SX.putAt fateR; simp
      rw [if_neg k6]
      by_cases k7 : e.1 = 7
      · rw [if_pos k7]; unfold popR; simp
      rw [if_neg k7]
      by_cases k8 : e.1 = 8
      · rw [if_pos k8]; unfold unwR
        (repeat' split) <;> simp [SX.putAt, fateR, popR]
      rw [if_neg k8]
      by_cases k9 : e.1 = 9
      · rw [if_pos k9]; unfold exR
        (repeat' split) <;> simp [SX.putAt, fateR, popR]
      rw [if_neg k9]; exact Nat.le_succ _
    rw [List.length_cons]; omega
theorem chn_few {m : MS} {k0 : Nat} (h : Chn m k0) : m.panics.length ≤ m.trace.length := by
 obtain ⟨ps, h1, h2, _⟩ := h.rd
 have h3 := R4_pans m.trace ⟨[], [], []⟩
 have h4 : (R4 m.trace).pans.length ≤ 0 + m.trace.length := h3
 rw [h1] at h4
 have h5 := congrArg List.length h2
 rw [List.length_map, List.length_map] at h5
 dsimp only at h4; omega
theorem chainOf_len {m : MS} {k0 : Nat} (h : Chn m k0) : (chainOf m).length ≤ m.panics.length := by
 unfold chainOf
 rw [arr_idx h]
 have h1 := chainR_len h (k0 + 1) (k0 + 1) (Nat.le_refl _)
 rw [show ((k0 + 1 : Nat) : Int) - 1 = (k0 : Int) by omega] at h1
 have := h.lt
 omega
def pchP (l : List (List ST)) (f arg fuel : Int) : List Int × Bool := if askB l f arg fuel = true ∧ (rn l f arg fuel).k = 2 then ((chainOf (rn l f arg fuel).m).reverse, true) else ([], false)
def errP (l : List (List ST)) (f arg fuel : Int) : List (Int × Int × List Int) × Bool := if askB l f arg fuel = true ∧ (rn l f arg fuel).k = 2 then (nodesE (chainOf (rn l f arg fuel).m), true) else ([], false)
theorem pchP_yes {l : List (List ST)} {f arg fuel : Int} (h1 : askB l f arg fuel = true) (h2 : (rn l f arg fuel).k = 2) : pchP l f arg fuel = ((chainOf (rn l f arg fuel).m).reverse, true) := by unfold pchP; rw [if_pos ⟨h1, h2⟩]
theorem pchP_no1 {l : List (List ST)} {f arg fuel : Int} (h : askB l f arg fuel = false) : pchP l f arg fuel = ([], false) := by unfold pchP; rw [if_neg (fun h9 => by rw [h] at h9; exact absurd h9.1 (by decide))]
theorem pchP_no2 {l : List (List ST)} {f arg fuel : Int} (h : ¬ (rn l f arg fuel).k = 2) : pchP l f arg fuel = ([], false) := by unfold pchP; rw [if_neg (fun h9 => h h9.2)]
theorem litRow {w0 w : World} {Rs : List Asn} (h : Sat w0 w Rs) {b : Nat} {cs : List Value} {T : TypeId} (sz n i : Nat) (hi : Rs[i]? = some (SX.blk b cs T)) (hl : cs.length = n * sz) (hn : n ≤ 1000000) : Sat w0 w (Rs.set i (SX.row (.slice (some ⟨b, 0, none⟩) n n) T sz cs)) := by
 refine h.turn hi _ fun F hF => ⟨fun k => ?_, n, hl, .inr ⟨b, n, cs.toArray, rfl, Nat.zero_le _, hF.2, Nat.le_refl _, by simp only [maxLen]; omega, by simpa using hl, by simp [← hl]⟩⟩
 rw [hF.1 k]
 simp [Value.ownBlock, eq_comm]
theorem run_few {l : List (List ST)} {f arg fuel : Int} (h : askB l f arg fuel = true) : (rn l f arg fuel).m.trace.length ≤ 1000 := by
 obtain ⟨h1, h2, h3, h4⟩ := ask_parts h
 have := runOf_brief (shared := 0) (arg := arg) h1 h2.1 h2.2 h4
 exact this
structure NdS where
 kd : Int
 cd : Int
 sl : Sl
 pts : List Int
def cellsN (x : NdS) : List Value := [.int .i64 x.kd, .int .i64 x.cd, .slice x.sl.A x.sl.n x.sl.c]
def encN (l : List NdS) : List Value := l.flatMap cellsN
theorem cellsN_len (x : NdS) : (cellsN x).length = 3 := rfl
theorem encN_length (l : List NdS) : (encN l).length = l.length * 3 := flat_length cellsN_len l
theorem encN_snoc (l : List NdS) (k c : Int) (s : Sl) (p : List Int) : encN l ++ [.int .i64 k, .int .i64 c, .slice s.A s.n s.c] = encN (l ++ [⟨k, c, s, p⟩]) := by simp [encN, cellsN]
def plN (x : NdS) : Int × Int × List Int := (x.kd, x.cd, x.pts)
def ownN (x : NdS) : Asn := SX.row (.slice x.sl.A x.sl.n x.sl.c) 3 1 (encJ x.pts)
theorem tmod100 (v : Int) : -99 ≤ v.tmod 100 ∧ v.tmod 100 ≤ 99 := by
  have h := Int.tmod_add_mul_tdiv v 100
  by_cases h0 : 0 ≤ v
  · rw [Int.tmod_eq_emod_of_nonneg h0]; omega
  · have h1 : (-v).tmod 100 = -(v.tmod 100) := Int.neg_tmod ..
    have h2 : (-v).tmod 100 = (-v) % 100 := Int.tmod_eq_emod_of_nonneg (by omega)
    omega
section
variable {w0 w : World} {Rs : List Asn} {us : List NdS} {k c : Int}
theorem nilN (h : Sat w0 w (jW (us.map ownN) :: Rs)) : Sat w0 w (jW ((us ++ [(⟨k, c, ⟨none, 0, 0⟩, []⟩ : NdS)]).map ownN) :: Rs) := by
 have h1 : Sat w0 w (ownN ⟨k, c, ⟨none, 0, 0⟩, []⟩ :: jW (us.map ownN) :: Rs) := Sat.nilRow h
 have h2 := h1.gainLast
 simpa using h2
theorem oneN {s : Sl} {p : List Int} (h : Sat w0 w (SX.row (.slice s.A s.n s.c) 3 1 (encJ p) :: jW (us.map ownN) :: Rs)) : Sat w0 w (jW ((us ++ [(⟨k, c, s, p⟩ : NdS)]).map ownN) :: Rs) := by
 have h2 := Sat.gainLast (R := ownN ⟨k, c, s, p⟩) h
 simpa using h2
end
theorem encJ_takeE (l : List Int) (j : Nat) : (encJ l).take (j * 1) = encJ (l.take j) := flat_take cellsJ_len l j
theorem errP_no {l : List (List ST)} {f arg fuel : Int} (h : (pchP l f arg fuel).2 = false) : errP l f arg fuel = ([], false) := by
 unfold pchP at h
 unfold errP
 split at h
 · cases h
 · rename_i h9; rw [if_neg h9]
theorem errP_yes {l : List (List ST)} {f arg fuel : Int} (h : (pchP l f arg fuel).2 = true) : ∃ C : List Int, C.length ≤ 1000 ∧ 1 ≤ C.length ∧ errP l f arg fuel = (nodesE C, true) ∧ (pchP l f arg fuel).1 = C.reverse := by
  unfold pchP at h
  split at h
  · rename_i h9
    obtain ⟨k0, hch⟩ := run_chn h9.2;have h1 := chainOf_len hch;have h2 := chn_few hch;have h3 := run_few h9.1;refine ⟨chainOf (rn l f arg fuel).m, Nat.le_trans h1 (Nat.le_trans h2 h3), ?_, by unfold errP; rw [if_pos h9], by rw [pchP_yes h9.1 h9.2]⟩;unfold chainOf;rw [arr_idx hch, chainR_next hch (List.getElem?_eq_getElem hch.lt), List.length_cons]
    omega
  · cases h
theorem plN_next {C : List Int} {us : List NdS} {i : Nat} {v : Int} {Y : NdS} (h : us.map plN = (nodesE C).take i) (hv : C[i]? = some v) (hi : i < 12) (hY : plN Y = nodeE (min C.length 12) i v) : (us ++ [Y]).map plN = (nodesE C).take (i + 1) := by
 rw [List.map_append, h, nodesE_next hv hi, ← hY]; rfl
theorem plN_last {n i : Nat} {v c : Int} {s : Sl} (h : i + 1 = n) (hc : c = codeE v) : plN ⟨1, c, s, []⟩ = nodeE n i v := by unfold nodeE; rw [if_pos h, hc]; rfl
theorem plN_more {n i : Nat} {v c q : Int} {s : Sl} (h : ¬ i + 1 = n) (hc : c = codeE v) (hq : q = (i : Int) + 1) : plN ⟨2, c, s, [q]⟩ = nodeE n i v := by unfold nodeE; rw [if_neg h, hc, hq]; rfl
theorem plN_all {C : List Int} {us : List NdS} {i : Nat} (h : us.map plN = (nodesE C).take i) (hi : i = min C.length 12) : us.map plN = nodesE C := by
 rw [h, List.take_of_length_le (by rw [nodesE_len]; omega)]
theorem rev_at {C : List Int} {i : Nat} {x : Int} (hx : x = (C.length : Int) - 1 - (i : Int)) (hi : i < C.length) {v : Int} (hv : C[i]? = some v) : C.reverse[x.toNat]? = some v := by
 rw [List.getElem?_reverse (by omega), show C.length - 1 - x.toNat = i by omega]; exact hv
end Go.Proofs.Ytcbijhgepdedpaa.G
