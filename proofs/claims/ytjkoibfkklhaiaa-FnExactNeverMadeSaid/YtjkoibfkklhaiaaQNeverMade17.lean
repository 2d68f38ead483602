/- What the claim FnExactNeverMade rests on, part 17 of 22; the last part proves it: for every input the law answers true, and its arguments read behind the call as before it. No condition. -/
import Derived.Test.YtjkoibfkklhaiaaQNeverMade7
import Derived.Test.YtjkoibfkklhaiaaQNeverMade8
import Derived.Test.YtjkoibfkklhaiaaQNeverMade10
import Derived.Test.YtjkoibfkklhaiaaQNeverMade13
import Derived.Test.YtjkoibfkklhaiaaQNeverMade14
import Derived.Test.YtjkoibfkklhaiaaQNeverMade16
set_option linter.unusedSimpArgs false
set_option linter.unusedVariables false
set_option maxRecDepth 20000
set_option maxHeartbeats 1000000
namespace Go.Proofs.Ytjkoibfkklhaiaa
namespace SX
open Go.RowKit Go.Proofs.Ytjkoibfkklhaiaa.G Go.Proofs.YtjkoibfkklhaiaaW.PrintWords Go.Proofs.YtjkoibfkklhaiaaW.PrintLast Go.Proofs.YtjkoibfkklhaiaaW.PrintMore
abbrev GS := S176
def toStp (x : GS) : Stp := ⟨x.f0, x.f1, x.f2⟩
def PL (l : List (List GS)) : List (List Stp) := l.map (·.map toStp)
theorem PL_length (l : List (List GS)) : (PL l).length = l.length := by simp [PL]
theorem stepB_ok {n : Nat} {k a b : Int} (h : stepB n k a b = true) : StpOk n ⟨k, a, b⟩ := by
  simp only [stepB, Bool.and_eq_true, decide_eq_true_eq] at h
  obtain ⟨⟨⟨h1, h2⟩, h3⟩, h4⟩ := h
  refine ⟨h1, h2, fun n4 n5 n10 n11 => ?_, fun hk => ?_, fun hk => ?_, fun hk => ?_, fun hk => ?_⟩
  · dsimp only at n4 n5 n10 n11 ⊢
    rw [if_neg (by omega), if_neg n11, if_neg n10] at h3;simp only [regB, Bool.and_eq_true, decide_eq_true_eq] at h3;exact h3
  · dsimp only at hk ⊢
    rw [if_neg (by omega), if_pos hk] at h4;simp only [regB, Bool.and_eq_true, decide_eq_true_eq] at h4;exact h4
  · dsimp only at hk ⊢
    rw [if_pos hk] at h3;simp only [Bool.and_eq_true, decide_eq_true_eq] at h3
    omega
  · dsimp only at hk ⊢
    rw [if_neg (by omega), if_pos hk] at h3;simp only [Bool.and_eq_true, decide_eq_true_eq] at h3;exact h3
  · dsimp only at hk ⊢
    rw [if_pos hk] at h4;simp only [numB, Bool.and_eq_true, decide_eq_true_eq] at h4;exact h4
theorem progOk_of {l : List (List GS)} (h : programB l = true) : ProgOk (PL l) := by
  simp only [programB, bodyB, Bool.and_eq_true, decide_eq_true_eq, List.all_eq_true] at h
  obtain ⟨⟨h1, h2⟩, h3⟩ := h
  refine ⟨by rw [PL_length]; exact h1, by rw [PL_length]; exact h2, fun b hb => ?_, fun b hb s hs => ?_⟩
  · obtain ⟨b', hb', rfl⟩ := List.mem_map.1 hb
    rw [List.length_map];exact (h3 b' hb').1
  · obtain ⟨b', hb', rfl⟩ := List.mem_map.1 hb
    obtain ⟨s', hs', rfl⟩ := List.mem_map.1 hs;rw [PL_length];exact stepB_ok ((h3 b' hb').2 s' hs')
theorem cell_lt {w : World} {p : Addr} {v : Value} (h : w.cell? p = some v) : p.block < w.heap.size := by
 unfold World.cell? at h
 split at h
 · rename_i h'; exact (Array.getElem?_eq_some_iff.1 h').1
 · cases h
theorem cell_below {w w' : World} {p : Addr} {v : Value} (h : w.cell? p = some v) (hb : Below w.heap.size w w') : w'.cell? p = some v := by
 rw [← h]
 unfold World.cell?
 rw [hb.block _ (cell_lt h)]
theorem RdBody.below {w w' : World} {s : Sl} {b : List Stp} (h : RdBody w s b) (hb : Below w.heap.size w w') : RdBody w' s b := ⟨h.len, h.A, fun j x hx => cell_below (h.k j x hx) hb, fun j x hx => cell_below (h.a j x hx) hb, fun j x hx => cell_below (h.b j x hx) hb⟩
theorem RdProg.below {w w' : World} {pv : Sl} {sbs : List Sl} {P : List (List Stp)} (h : RdProg w pv sbs P) (hb : Below w.heap.size w w') : RdProg w' pv sbs P :=
 ⟨h.len, h.A, fun i b hi => let ⟨s, h1, h2, h3⟩ := h.rows i b hi; ⟨s, h1, cell_below h2 hb, h3.below hb⟩⟩
theorem RdProg.keeps {w : World} {pv : Sl} {sbs : List Sl} {P : List (List Stp)} (h : RdProg w pv sbs P) (Rs : List Asn) : Keeps w Rs (fun w => RdProg w pv sbs P) := fun w' hS => h.below hS.below
theorem rdBody_of {w : World} {A : Option Addr} {c : Nat} {l : List GS} (hr : Kd.C k176 w A l.length l) : RdBody w ⟨A, l.length, c⟩ (l.map toStp) := by
  obtain ⟨_, _, h3⟩ := hr
  have key : ∀ (j : Nat) (x : GS), l[j]? = some x → A = some ⟨bk ⟨A, l.length, c⟩, of_ ⟨A, l.length, c⟩, none⟩ ∧ ∀ i u, (encT x)[i]? = some u → w.cell? ⟨bk ⟨A, l.length, c⟩, of_ ⟨A, l.length, c⟩ + j * 3 + i, none⟩ = some u := by
    intro j x hj;have hjl : j < l.length := (List.getElem?_eq_some_iff.1 hj).1;obtain ⟨ad, hA, hcells⟩ := h3 (by omega)
    have key : ∀ (j : Nat) (x : GS), l[j]? = some x → ∀ i u, (encT x)[i]? = some u → w.cell? (ad.add (j * 3 + i)) = some u := fun j x hj i u hu => by
      obtain ⟨cs, _, hk, hu'⟩ := hcells j x hj;rw [k176_open hk] at hu';exact hu' i u hu
    have h0 := key 0 _ (List.getElem?_eq_getElem (by omega)) 0 _ rfl;have hspot := spot_of_cell h0;obtain ⟨b, off, sp⟩ := ad;subst hspot;subst hA;refine ⟨rfl, fun i u hu => ?_⟩;have := key j x hj i u hu;rw [add0, ← Nat.add_assoc] at this;exact this
  have get : ∀ (j : Nat) (x : Stp), (l.map toStp)[j]? = some x → ∃ y : GS, l[j]? = some y ∧ toStp y = x := fun j x hx => by
    rw [List.getElem?_map] at hx;exact Option.map_eq_some_iff.1 hx
  refine ⟨by simp, fun hp => ?_, fun j x hx => ?_, fun j x hx => ?_, fun j x hx => ?_⟩
  · rw [List.length_map] at hp
    exact (key 0 _ (List.getElem?_eq_getElem hp)).1
  · obtain ⟨y, hy, rfl⟩ := get j x hx
    exact (key j y hy).2 0 _ rfl
  · obtain ⟨y, hy, rfl⟩ := get j x hx
    exact (key j y hy).2 1 _ rfl
  · obtain ⟨y, hy, rfl⟩ := get j x hx
    exact (key j y hy).2 2 _ rfl
theorem rdProg_of {w : World} {A : Option Addr} {c : Nat} {l : List (List GS)} (hr : Kd.C (Kd.slice 176 k176) w A l.length l) : ∃ sbs, RdProg w ⟨A, l.length, c⟩ sbs (PL l) := by
  have hb := bodies_cells (s := ⟨A, l.length, c⟩) hr
  have hs : ∀ j : Nat, ∃ s : Sl, ∀ b, l[j]? = some b → w.cell? ⟨bk ⟨A, l.length, c⟩, of_ ⟨A, l.length, c⟩ + j, none⟩ = some s.v ∧ RdBody w s (b.map toStp) := by
    intro j;cases hj : l[j]? with
    | none => exact ⟨⟨none, 0, 0⟩, fun b h => by cases h⟩
    | some b =>
      obtain ⟨_, A', c', h1, h2, h3⟩ := hb j b hj;exact ⟨⟨A', b.length, c'⟩, fun b' h => by cases h; exact ⟨h1, rdBody_of h3⟩⟩
  have hs2 : ∃ f : Nat → Sl, ∀ j b, l[j]? = some b → w.cell? ⟨bk ⟨A, l.length, c⟩, of_ ⟨A, l.length, c⟩ + j, none⟩ = some (f j).v ∧ RdBody w (f j) (b.map toStp) := ⟨fun j => (hs j).choose, fun j => (hs j).choose_spec⟩
  obtain ⟨f, hf⟩ := hs2
  refine ⟨(List.range l.length).map f, (PL_length l).symm, fun hp => ?_, fun i b hi => ?_⟩
  · rw [PL_length] at hp
    exact (hb 0 _ (List.getElem?_eq_getElem hp)).1
  · rw [PL, List.getElem?_map] at hi
    obtain ⟨y, hy, rfl⟩ := Option.map_eq_some_iff.1 hi;have hlt := (List.getElem?_eq_some_iff.1 hy).1;exact ⟨f i, by rw [List.getElem?_map, List.getElem?_range hlt]; rfl, hf i y hy⟩
section
variable {w0 w : World} {Rs : List Asn}
theorem drawn_sat (hS : Sat w0 w Rs) {w' : World} (h : Drawn0 w w') : Sat w0 w' Rs := by
 obtain ⟨q, rfl⟩ := h.out
 exact hS.grows ⟨rfl, rfl, rfl, Nat.le_refl _, fun _ _ => rfl⟩
def inB (x lo hi : Int) : Bool := decide (lo ≤ x) && decide (x ≤ hi)
theorem in_sat (hS : Sat w0 w Rs) (x lo hi : Int) : Calls Try.prog 94 #[.int .i64 x, .int .i64 lo, .int .i64 hi] w (Ret fun r w' => r = .bool (inB x lo hi) ∧ Sat w0 w' Rs) := by
 refine (impl_in.calls x lo hi _ w (in_eq x lo hi)).mono ?_
 rintro e w' ⟨rfl, hd⟩
 exact ⟨rfl, drawn_sat hS hd⟩
theorem num_sat (hS : Sat w0 w Rs) (x : Int) : Calls Try.prog 121 #[.int .i64 x] w (Ret fun r w' => r = .bool (numB x) ∧ Sat w0 w' Rs) := by
 refine (impl_isNumber.calls x _ w (num_eq x)).mono ?_
 rintro e w' ⟨rfl, hd⟩
 exact ⟨rfl, drawn_sat hS hd⟩
theorem prog_sat (hS : Sat w0 w Rs) {A : Option Addr} {c : Nat} {l : List (List GS)} (hr : Kd.C (Kd.slice 176 k176) w A l.length l) (hc : l.length ≤ c) : Calls Try.prog 84 #[.agg #[.slice A l.length c]] w (Ret fun r w' => r = .bool (programB l) ∧ Sat w0 w' Rs) := by
 refine (impl_IsProgram.calls A c l _ w hr hc rfl).mono ?_
 rintro e w' ⟨rfl, hb⟩
 exact ⟨rfl, hS.grows hb⟩
end
structure RunR where
 m : MS
 k : Int
 v : Int
def runOf (res : R3) : RunR := match res with
 | .spent m => ⟨m, 4, 0⟩
 | .done m f _ => ⟨if f.en = 2 then { m with panics := panAt m.panics f.pan (fun x => { x with fate := 3 }) } else m, f.en, (m.calls.getD 0 ⟨0, 0, false, 0, 0, 0⟩).val⟩
def runS (P : List (List Stp)) (shared f arg fuel : Int) : RunR := runOf (callS P fuel 8 (MS.start shared) f arg none 0 false)
def askB (l : List (List GS)) (f arg fuel : Int) : Bool := programB l && inB f 0 ((l.length : Int) - 1) && numB arg && inB fuel 0 200
theorem start_ok {fuel : Int} (shared : Int) (h0 : 0 ≤ fuel) (h1 : fuel ≤ 200) : OkM fuel (MS.start shared) (10 + 2) := by
 refine ⟨Int.le_refl _, h0, h1, ?_, rfl, Nat.le_refl _, Nat.le_refl _, Nat.le_refl _, fun p hp => by simp [MS.start] at hp⟩
 simp only [MS.start, List.length_nil]
 omega
def mblkO (pv : Sl) (fuel : Int) (m : MS) (s : MSl) (k v : Int) : List Value :=
 [pv.v, .int .i64 fuel, .int .i64 m.made, .int .i64 m.shared, .int .i64 m.depth, .int .i64 m.deepest, s.tr.v, s.ow.v, s.ca.v, s.pa.v, s.re.v, .map (some s.bp), .int .i64 k, .int .i64 v, s.tr.v, .int .i64 m.made]
def mchOL (b : Nat) (pv : Sl) (fuel : Int) (r : RunR) (s : MSl) : List Asn := blk b (mblkO pv fuel r.m s r.k r.v) 105 :: mrest r.m s
def mchO (b : Nat) (pv : Sl) (fuel : Int) (r : RunR) : Asn := exA fun s : { s : MSl // s.us.map (·.1) = r.m.panics } => jG (mchOL b pv fuel r s.1)
theorem Sat.openMO {w0 w : World} {Rs : List Asn} {b : Nat} {pv : Sl} {fuel : Int} {r : RunR} (h : Sat w0 w (mchO b pv fuel r :: Rs)) : ∃ s : MSl, s.us.map (·.1) = r.m.panics ∧ Sat w0 w (mchOL b pv fuel r s ++ Rs) := by
 obtain ⟨⟨s, hs⟩, h⟩ := h.open_ 0 rfl
 exact ⟨s, hs, h.split⟩
theorem Sat.shutMO {w0 w : World} {Rs : List Asn} {b : Nat} {pv : Sl} {fuel : Int} {r : RunR} (s : MSl) (hs : s.us.map (·.1) = r.m.panics) (h : Sat w0 w (mchOL b pv fuel r s ++ Rs)) : Sat w0 w (mchO b pv fuel r :: Rs) := h.merge.shut (R := fun s : { s : MSl // s.us.map (·.1) = r.m.panics } => jG (mchOL b pv fuel r s.1)) ⟨s, hs⟩ 0 rfl
section
variable {P : Program} {R : Array Oper} {Q : Exit → Act → World → Prop} {n : Nat} {e : Env} {a : Act} {w w0 : World} {Rs : List Asn}
theorem o_makeMap {i d : Nat} {t ty : TypeId} {K : Act → World → Prop} (h : Has n e a) (hd : d < n) (ho : AtW R i (.makeMap t none) (some d) ty a) (hS : Sat w0 w Rs)
  (k : ∀ b w' a', w0.heap.size ≤ b → Sat w0 w' (xZ b [] :: Rs) → Has n ((d, .map (some b)) :: e) a' → K a' w') : wpOp P R Q i K a w := by
 refine o_val (v := .map (some w.heap.size)) (w' := w.alloc (.map #[] 0)) h hd ho (by simp [covers, Op.operands, notSelect]) (by simp [execOp, opr, Instr.makeMap]) fun a' ha => k w.heap.size _ a' hS.below.size ?_ ha
 have h1 := hS.allocO (.map #[] 0)
 exact h1.shut (R := fun x : { x : Array MapEntry × Nat // MapIs x.1 x.2 [] } => SX.obj w.heap.size (.map x.1.1 x.1.2)) ⟨(#[], 0), ⟨fun x hx => by simp at hx, fun p hp => by simp at hp, MapKept.stamped_empty _, fun p hp => by simp at hp⟩⟩ 0 rfl
end
theorem mch_start {w0 w : World} {Rs : List Asn} {bm bp : Nat} {pv : Sl} {fuel shared : Int} (h : Sat w0 w (SX.blk bm [pv.v, .int .i64 fuel, .int .i64 0, .int .i64 shared, .int .i64 0, .int .i64 0, .slice none 0 0, .slice none 0 0, .slice none 0 0, .slice none 0 0, .slice none 0 0, .map (some bp), .int .i64 0, .int .i64 0, .slice none 0 0, .int .i64 0] 105 :: xZ bp [] :: Rs)) :
  Sat w0 w (mch bm pv fuel (MS.start shared) :: Rs) := by
 have h1 := Sat.nilRow (T := 201) (sz := 3) h
 have h2 := Sat.nilRow (T := 3) (sz := 1) h1
 have h3 := Sat.nilRow (T := 161) (sz := 6) h2
 have h4 := Sat.nilRow (T := 171) (sz := 9) h3
 have h5 := Sat.nilRow (T := 233) (sz := 3) h4
 have h6 : Sat w0 w (jG [] :: row (.slice none 0 0) 233 3 [] :: row (.slice none 0 0) 171 9 [] :: row (.slice none 0 0) 161 6 [] :: row (.slice none 0 0) 3 1 [] :: row (.slice none 0 0) 201 3 [] :: _ :: _ :: Rs) := Sat.merge (l := []) h5
 refine Sat.shutM ⟨⟨none, 0, 0⟩, ⟨none, 0, 0⟩, ⟨none, 0, 0⟩, ⟨none, 0, 0⟩, ⟨none, 0, 0⟩, [], bp⟩ rfl ?_
 exact h6.pickR (l := [_, _, _, _, _, _, _, _]) [6, 5, 4, 3, 2, 0, 1, 7] (by decide) _ rfl
theorem first_done {P : List (List Stp)} (hP : ProgOk P) {fuel : Int} {bm : Nat} {pv : Sl} {sbs : List Sl} {w0 w : World} {Rs : List Asn} {m : MS} {fn arg : Int} {x : Nat} (hS : Sat w0 w (mch bm pv fuel m :: Rs)) (hm : OkM fuel m (x + 2)) (hdep : m.depth = 0) (h0 : 0 ≤ fn) (h1 : fn < P.length) (hPr : Keeps w0 Rs (fun w => RdProg w pv sbs P)) {m1 : MS} {f1 : FS} {o1 : Int} (hr : callS P fuel 8 m fn arg none 0 false = .done m1 f1 o1) :
    Calls Try.prog 132 #[.pointer (some ⟨bm, 0, none⟩), .int .i64 fn, .int .i64 arg] w (Ret fun v w' => ∃ bd, v = .pointer (some ⟨bd, 0, none⟩) ∧ Sat w0 w' (mch bm pv fuel m1 :: frm bd f1 (.pointer none) :: Rs)) := by
  have h := first_calls P hP fuel bm pv sbs w0 w Rs m fn arg x hS hm hdep h0 h1 hPr
  rw [hr] at h
  refine h.mono fun e w' h2 => ?_
  cases e with
  | returned v =>
    rcases h2 with ⟨m', f', o', bd, hh, rfl, h4⟩ | ⟨m', hh, _⟩
    · injection hh with e1 e2 e3
      subst e1 e2 e3;exact ⟨bd, rfl, h4⟩
    · cases hh
  | panicked c => exact h2
  | outgrown => exact h2
theorem first_spent {P : List (List Stp)} (hP : ProgOk P) {fuel : Int} {bm : Nat} {pv : Sl} {sbs : List Sl} {w0 w : World} {Rs : List Asn} {m : MS} {fn arg : Int} {x : Nat} (hS : Sat w0 w (mch bm pv fuel m :: Rs)) (hm : OkM fuel m (x + 2)) (hdep : m.depth = 0) (h0 : 0 ≤ fn) (h1 : fn < P.length) (hPr : Keeps w0 Rs (fun w => RdProg w pv sbs P)) {m1 : MS} (hr : callS P fuel 8 m fn arg none 0 false = .spent m1) :
    Calls Try.prog 132 #[.pointer (some ⟨bm, 0, none⟩), .int .i64 fn, .int .i64 arg] w (Ret fun v w' => v = .pointer none ∧ Sat w0 w' (mch bm pv fuel m1 :: Rs)) := by
  have h := first_calls P hP fuel bm pv sbs w0 w Rs m fn arg x hS hm hdep h0 h1 hPr
  rw [hr] at h
  refine h.mono fun e w' h2 => ?_
  cases e with
  | returned v =>
    rcases h2 with ⟨m', f', o', bd, hh, _⟩ | ⟨m', hh, rfl, h4⟩
    · cases hh
    · injection hh with e1
      subst e1;exact ⟨rfl, h4⟩
  | panicked c => exact h2
  | outgrown => exact h2
end SX
namespace SX
open Go.RowKit
open Go.Proofs.Ytjkoibfkklhaiaa.G Go.Proofs.YtjkoibfkklhaiaaW.PrintWords Go.Proofs.YtjkoibfkklhaiaaW.PrintLast Go.Proofs.YtjkoibfkklhaiaaW.PrintMore
theorem code104 : Try.f104.body = some (Code.seq (cr Try.f104 0 false) (Code.seq (Code.seq (cr Try.f104 1 false) (Code.cond (Operand.tmp 35) (Code.seq (cr Try.f104 2 false) Code.ret) Code.skip)) (Code.seq (cr Try.f104 3 false) (Code.seq (cr Try.f104 4 false) (Code.seq (cr Try.f104 5 true) (Code.seq (Code.seq (cr Try.f104 6 false) (Code.cond (Operand.tmp 59) (Code.seq (cr Try.f104 7 true) (Code.seq (cr Try.f104 8 false) (Code.cond (Operand.tmp 84) (cr Try.f104 9 true) Code.skip))) Code.skip)) (Code.seq (cr Try.f104 10 false) Code.ret))))))) := by kernel_rfl
theorem ranFrom_bad (w0 : World) (pv : Sl) (l : List (List GS)) (f arg fuel shared : Int) (hn : pv.n = l.length) (hr : Kd.C (Kd.slice 176 k176) w0 pv.A l.length l) (hc : l.length ≤ pv.c) (hask : askB l f arg fuel = false) :
  Calls Try.prog 104 #[.agg #[pv.v], .int .i64 f, .int .i64 arg, .int .i64 fuel, .int .i64 shared] w0 (Ret fun r w' => r = .tuple #[.pointer none, .bool false] ∧ Sat w0 w' []) := by
 have hl : l.length ≤ 9223372036854775807 := hr.2.1
 have hrd : ∀ {w' : World} {Rs' : List Asn}, Sat w0 w' Rs' → Kd.C (Kd.slice 176 k176) w' pv.A l.length l := fun h => Kd.C_below hr h.below
 have hS := Sat.start w0
 refine enter (n := 96) Try.func104 code104 (by kernel_rfl) (Nat.le_of_ble_eq_true rfl) (fun a ha => ?_)
 replace ha : Has 96 [(0, .agg #[.slice pv.A pv.n pv.c]), (1, iv f), (2, iv arg), (3, iv fuel), (4, iv shared)] a := ha
 refine wp_seq (jX [0, 1, 2] (jK (qV 5 [.slice pv.A pv.n pv.c] 35 (ptr · 0) ha hS fun b1 w a hb2 hS ha => ?_)))
 refine jQ [(1, 10, .pointer none), (2, 11, .bool false)] ha fun a ha => ?_
 refine jY (jJ (wp_seq (wp_seq (jX [0, 1, 2, 3, 4, 5, 6, 7, 8, 9, 10, 11, 12, 13, 14, 15, 16, 17, 18, 19, 20, 21] (zY 14 ha (hS.blk 0 rfl) fun a ha => ?_)))))
 refine jK (o_ret (Post := fun r_ w' => r_ = .bool (programB l) ∧ Sat w0 w' ((SX.blk b1 [.slice pv.A pv.n pv.c] 35) :: [])) ha (by decide) (yU (op := (Op.call { callee := (Callee.value (Operand.func 84)), args := #[(Operand.tmp 14)], argTypes := #[35] })) (d := some 15) (ty := 4)) rfl Try.func84 (by kernel_rfl) (by have h9 := prog_sat (A := pv.A) (c := pv.c) hS (hrd hS) hc; rw [← hn] at h9; exact h9) (fun v3 w a hp4 ha => ?_))
 obtain ⟨rfl, hS⟩ := hp4
 have ha : Has 96 [(1, iv f), (2, iv arg), (3, iv fuel), (4, iv shared), (5, ptr b1 0), (10, .pointer none), (11, .bool false), (14, .agg #[.slice pv.A pv.n pv.c]), (15, .bool (programB l))] a := ha.keeps [1, 2, 3, 4, 5, 10, 11, 14, 15] _ rfl
 refine jQ [(2, 16, .bool (!((programB l)))), (3, 17, .bool (!((programB l))))] ha fun a ha => ?_
 rcases Bool.eq_false_or_eq_true (programB l) with c5 | c5
 ·
  replace ha := ha.turn 15 (.bool true) rfl (congrArg Value.bool c5)
  replace ha := ha.turn 16 (.bool false) rfl (congrArg Value.bool (zJ c5))
  replace ha := ha.turn 17 (.bool false) rfl (congrArg Value.bool (zJ c5))
  refine jQ [(4, 18, iv f), (5, 19, ptr b1 0)] ha fun a ha => ?_
  refine qQ (d := 20) (b := b1) (j := 0) ha (hS.blk 0 rfl) rfl fun a ha => ?_
  refine jQ [(7, 21, iv (pv.n : Int))] ha fun a ha => ?_
  refine zZ 22 ((pv.n : Int) - 1) ha fun a ha => ?_
  refine jK (xJ 23 (vs := [iv f, iv 0, iv ((pv.n : Int) - 1)]) ha (in_sat hS _ _ _) fun v6 w a hp7 ha => ?_)
  obtain ⟨rfl, hS⟩ := hp7
  refine jQ [(10, 24, .bool (!((inB f 0 ((pv.n : Int) - 1))))), (11, 25, .bool (!((inB f 0 ((pv.n : Int) - 1))))), (12, 26, .bool (!((inB f 0 ((pv.n : Int) - 1)))))] ha fun a ha => ?_
  rcases Bool.eq_false_or_eq_true (inB f 0 ((pv.n : Int) - 1)) with c8 | c8
  ·
   replace ha := ha.turn 23 (.bool true) rfl (congrArg Value.bool c8);replace ha := ha.turn 24 (.bool false) rfl (congrArg Value.bool (zJ c8));replace ha := ha.turn 25 (.bool false) rfl (congrArg Value.bool (zJ c8));replace ha := ha.turn 26 (.bool false) rfl (congrArg Value.bool (zJ c8));refine jQ [(13, 27, iv arg)] ha fun a ha => ?_;refine jK (xJ 28 (vs := [iv arg]) ha (num_sat hS _) fun v9 w a hp10 ha => ?_);obtain ⟨rfl, hS⟩ := hp10;refine jQ [(15, 29, .bool (!((numB arg)))), (16, 30, .bool (!((numB arg)))), (17, 31, .bool (!((numB arg))))] ha fun a ha => ?_
   rcases Bool.eq_false_or_eq_true (numB arg) with c11 | c11
   ·
    replace ha := ha.turn 28 (.bool true) rfl (congrArg Value.bool c11);replace ha := ha.turn 29 (.bool false) rfl (congrArg Value.bool (zJ c11));replace ha := ha.turn 30 (.bool false) rfl (congrArg Value.bool (zJ c11));replace ha := ha.turn 31 (.bool false) rfl (congrArg Value.bool (zJ c11));refine jQ [(18, 32, iv fuel)] ha fun a ha => ?_;refine jK (xJ 33 (vs := [iv fuel, iv 0, iv 200]) ha (in_sat hS _ _ _) fun v12 w a hp13 ha => ?_);obtain ⟨rfl, hS⟩ := hp13;refine jQ [(20, 34, .bool (!((inB fuel 0 200)))), (21, 35, .bool (!((inB fuel 0 200))))] ha fun a ha => ?_;refine jY (jJ ?_)
    rcases Bool.eq_false_or_eq_true (inB fuel 0 200) with c14 | c14
    ·
     exact absurd hask (by simp [askB, ← hn, c14, c5, c8, c11])
    refine jV ha rfl (kJ c14) ?_;refine wp_seq (jX [0, 1] (jQ [(0, 10, .pointer none), (1, 11, .bool false)] ha fun a ha => ?_));refine jY ?_;replace ha := ha.as [(1, iv f), (2, iv arg), (3, iv fuel), (4, iv shared), (5, ptr b1 0), (10, .pointer none), (11, .bool false)] rfl;refine jJ (wp_ret (qH ?_));refine end_tmp2 (t := 10) (u := 11) ha (by kernel_rfl) rfl rfl ?_;exact ⟨rfl, Sat.rest [_] hS⟩
   replace ha := ha.turn 28 (.bool false) rfl (congrArg Value.bool c11);replace ha := ha.turn 29 (.bool true) rfl (congrArg Value.bool (kJ c11));replace ha := ha.turn 30 (.bool true) rfl (congrArg Value.bool (kJ c11));replace ha := ha.turn 31 (.bool true) rfl (congrArg Value.bool (kJ c11));refine jQ [(18, 32, undef), (19, 33, undef), (20, 34, undef), (21, 35, .bool true)] ha fun a ha => ?_;refine jY (jJ ?_);refine jV ha rfl rfl ?_;refine wp_seq (jX [0, 1] (jQ [(0, 10, .pointer none), (1, 11, .bool false)] ha fun a ha => ?_));refine jY ?_;replace ha := ha.as [(1, iv f), (2, iv arg), (3, iv fuel), (4, iv shared), (5, ptr b1 0), (10, .pointer none), (11, .bool false)] rfl;refine jJ (wp_ret (qH ?_));refine end_tmp2 (t := 10) (u := 11) ha (by kernel_rfl) rfl rfl ?_;exact ⟨rfl, Sat.rest [_] hS⟩
  replace ha := ha.turn 23 (.bool false) rfl (congrArg Value.bool c8)
  replace ha := ha.turn 24 (.bool true) rfl (congrArg Value.bool (kJ c8))
  replace ha := ha.turn 25 (.bool true) rfl (congrArg Value.bool (kJ c8))
  replace ha := ha.turn 26 (.bool true) rfl (congrArg Value.bool (kJ c8))
  refine jQ [(13, 27, undef), (14, 28, undef), (15, 29, undef), (16, 30, .bool true), (17, 31, .bool true), (18, 32, undef), (19, 33, undef), (20, 34, undef), (21, 35, .bool true)] ha fun a ha => ?_
  refine jY (jJ ?_)
  refine jV ha rfl rfl ?_
  refine wp_seq (jX [0, 1] (jQ [(0, 10, .pointer none), (1, 11, .bool false)] ha fun a ha => ?_))
  refine jY ?_
  replace ha := ha.as [(1, iv f), (2, iv arg), (3, iv fuel), (4, iv shared), (5, ptr b1 0), (10, .pointer none), (11, .bool false)] rfl
  refine jJ (wp_ret (qH ?_))
  refine end_tmp2 (t := 10) (u := 11) ha (by kernel_rfl) rfl rfl ?_
  exact ⟨rfl, Sat.rest [_] hS⟩
 replace ha := ha.turn 15 (.bool false) rfl (congrArg Value.bool c5)
 replace ha := ha.turn 16 (.bool true) rfl (congrArg Value.bool (kJ c5))
 replace ha := ha.turn 17 (.bool true) rfl (congrArg Value.bool (kJ c5))
 refine jQ [(4, 18, undef), (5, 19, undef), (6, 20, undef), (7, 21, undef), (8, 22, undef), (9, 23, undef), (10, 24, undef), (11, 25, .bool true), (12, 26, .bool true), (13, 27, undef), (14, 28, undef), (15, 29, undef), (16, 30, .bool true), (17, 31, .bool true), (18, 32, undef), (19, 33, undef), (20, 34, undef), (21, 35, .bool true)] ha fun a ha => ?_
 refine jY ?_
 replace ha := ha.as [(1, iv f), (2, iv arg), (3, iv fuel), (4, iv shared), (5, ptr b1 0), (10, .pointer none), (11, .bool false), (35, .bool true)] rfl
 refine jJ ?_
 refine jV ha rfl rfl ?_
 refine wp_seq (jX [0, 1] (jQ [(0, 10, .pointer none), (1, 11, .bool false)] ha fun a ha => ?_))
 refine jY (jJ (wp_ret (qH ?_)))
 refine end_tmp2 (t := 10) (u := 11) ha (by kernel_rfl) rfl rfl ?_
 exact ⟨rfl, Sat.rest [_] hS⟩
theorem ranFrom_done (w0 : World) (pv : Sl) (l : List (List GS)) (f arg fuel shared : Int) (hn : pv.n = l.length) (hr : Kd.C (Kd.slice 176 k176) w0 pv.A l.length l) (hc : l.length ≤ pv.c) (hask : askB l f arg fuel = true) (m1 : MS) (f1 : FS) (o1 : Int) (hres : callS (PL l) fuel 8 (MS.start shared) f arg none 0 false = .done m1 f1 o1) :
  Calls Try.prog 104 #[.agg #[pv.v], .int .i64 f, .int .i64 arg, .int .i64 fuel, .int .i64 shared] w0 (Ret fun r w' => ∃ bm, r = .tuple #[.pointer (some ⟨bm, 0, none⟩), .bool true] ∧ Sat w0 w' [mchO bm pv fuel (runS (PL l) shared f arg fuel)]) := by
 have hl : l.length ≤ 9223372036854775807 := hr.2.1
 have hrd : ∀ {w' : World} {Rs' : List Asn}, Sat w0 w' Rs' → Kd.C (Kd.slice 176 k176) w' pv.A l.length l := fun h => Kd.C_below hr h.below
 have hS := Sat.start w0
 simp only [askB, Bool.and_eq_true] at hask
 obtain ⟨⟨⟨hq1, hq2⟩, hq3⟩, hq4⟩ := hask
 have hP := progOk_of hq1
 obtain ⟨sbs, hPr⟩ := rdProg_of (c := pv.c) hr
 rw [← hn] at hPr
 rw [← hn] at hq2
 have hff : 0 ≤ f ∧ f < (PL l).length := by rw [PL_length, ← hn]; simp only [inB, Bool.and_eq_true, decide_eq_true_eq] at hq2; omega
 have hfu : 0 ≤ fuel ∧ fuel ≤ 200 := by simp only [inB, Bool.and_eq_true, decide_eq_true_eq] at hq4; exact hq4
 obtain ⟨hok, hgr, hof⟩ := callS_ok hP fuel 8 (MS.start shared) f arg none 0 false m1 f1 o1 10 (start_ok shared hfu.1 hfu.2) hff.1 hff.2 hres
 obtain ⟨c0, hc0⟩ : ∃ c, m1.calls[0]? = some c := ⟨m1.calls[0]'(by have := hof.id0; have := hof.id1; omega), List.getElem?_eq_getElem _⟩
 have hb9 := hof.pan
 refine enter (n := 96) Try.func104 code104 (by kernel_rfl) (Nat.le_of_ble_eq_true rfl) (fun a ha => ?_)
 replace ha : Has 96 [(0, .agg #[.slice pv.A pv.n pv.c]), (1, iv f), (2, iv arg), (3, iv fuel), (4, iv shared)] a := ha
 refine wp_seq (jX [0, 1, 2] (jK (qV 5 [.slice pv.A pv.n pv.c] 35 (ptr · 0) ha hS fun b1 w a hb2 hS ha => ?_)))
 refine jQ [(1, 10, .pointer none), (2, 11, .bool false)] ha fun a ha => ?_
 refine jY (jJ (wp_seq (wp_seq (jX [0, 1, 2, 3, 4, 5, 6, 7, 8, 9, 10, 11, 12, 13, 14, 15, 16, 17, 18, 19, 20, 21] (zY 14 ha (hS.blk 0 rfl) fun a ha => ?_)))))
 refine jK (o_ret (Post := fun r_ w' => r_ = .bool (programB l) ∧ Sat w0 w' ((SX.blk b1 [.slice pv.A pv.n pv.c] 35) :: [])) ha (by decide) (yU (op := (Op.call { callee := (Callee.value (Operand.func 84)), args := #[(Operand.tmp 14)], argTypes := #[35] })) (d := some 15) (ty := 4)) rfl Try.func84 (by kernel_rfl) (by have h9 := prog_sat (A := pv.A) (c := pv.c) hS (hrd hS) hc; rw [← hn] at h9; exact h9) (fun v3 w a hp4 ha => ?_))
 obtain ⟨rfl, hS⟩ := hp4
 have ha : Has 96 [(1, iv f), (2, iv arg), (3, iv fuel), (4, iv shared), (5, ptr b1 0), (10, .pointer none), (11, .bool false), (14, .agg #[.slice pv.A pv.n pv.c]), (15, .bool (programB l))] a := ha.keeps [1, 2, 3, 4, 5, 10, 11, 14, 15] _ rfl
 refine jQ [(2, 16, .bool (!((programB l)))), (3, 17, .bool (!((programB l))))] ha fun a ha => ?_
 replace ha := ha.turn 15 (.bool true) rfl (congrArg Value.bool hq1)
 replace ha := ha.turn 16 (.bool false) rfl (congrArg Value.bool (zJ hq1))
 replace ha := ha.turn 17 (.bool false) rfl (congrArg Value.bool (zJ hq1))
 refine jQ [(4, 18, iv f), (5, 19, ptr b1 0)] ha fun a ha => ?_
 refine qQ (d := 20) (b := b1) (j := 0) ha (hS.blk 0 rfl) rfl fun a ha => ?_
 refine jQ [(7, 21, iv (pv.n : Int))] ha fun a ha => ?_
 refine zZ 22 ((pv.n : Int) - 1) ha fun a ha => ?_
 refine jK (xJ 23 (vs := [iv f, iv 0, iv ((pv.n : Int) - 1)]) ha (in_sat hS _ _ _) fun v5 w a hp6 ha => ?_)
 obtain ⟨rfl, hS⟩ := hp6
 refine jQ [(10, 24, .bool (!((inB f 0 ((pv.n : Int) - 1))))), (11, 25, .bool (!((inB f 0 ((pv.n : Int) - 1))))), (12, 26, .bool (!((inB f 0 ((pv.n : Int) - 1)))))] ha fun a ha => ?_
 replace ha := ha.turn 23 (.bool true) rfl (congrArg Value.bool hq2)
 replace ha := ha.turn 24 (.bool false) rfl (congrArg Value.bool (zJ hq2))
 replace ha := ha.turn 25 (.bool false) rfl (congrArg Value.bool (zJ hq2))
 replace ha := ha.turn 26 (.bool false) rfl (congrArg Value.bool (zJ hq2))
 refine jQ [(13, 27, iv arg)] ha fun a ha => ?_
 refine jK (xJ 28 (vs := [iv arg]) ha (num_sat hS _) fun v7 w a hp8 ha => ?_)
 obtain ⟨rfl, hS⟩ := hp8
 refine jQ [(15, 29, .bool (!((numB arg)))), (16, 30, .bool (!((numB arg)))), (17, 31, .bool (!((numB arg))))] ha fun a ha => ?_
 replace ha := ha.turn 28 (.bool true) rfl (congrArg Value.bool hq3)
 replace ha := ha.turn 29 (.bool false) rfl (congrArg Value.bool (zJ hq3))
 replace ha := ha.turn 30 (.bool false) rfl (congrArg Value.bool (zJ hq3))
 replace ha := ha.turn 31 (.bool false) rfl (congrArg Value.bool (zJ hq3))
 refine jQ [(18, 32, iv fuel)] ha fun a ha => ?_
 refine jK (xJ 33 (vs := [iv fuel, iv 0, iv 200]) ha (in_sat hS _ _ _) fun v9 w a hp10 ha => ?_)
 obtain ⟨rfl, hS⟩ := hp10
 refine jQ [(20, 34, .bool (!((inB fuel 0 200)))), (21, 35, .bool (!((inB fuel 0 200))))] ha fun a ha => ?_
 refine jY (jJ ?_)
 refine jW ha rfl (zJ hq4) ?_
 refine wp_skip (jJ (wp_seq (jX [0, 1, 2, 3, 4, 5, 6] (zY 36 ha (hS.blk 0 rfl) fun a ha => ?_))))
 refine jQ [(1, 37, iv fuel), (2, 38, iv shared)] ha fun a ha => ?_
 refine jK (o_makeMap ha (by decide) (yU (op := (Op.makeMap 101 none)) (d := some 39) (ty := 101)) hS (fun bp w a hb11 (hS : Sat w0 w ((xZ bp []) :: (SX.blk b1 [.slice pv.A pv.n pv.c] 35) :: [])) ha => ?_))
 refine jQ [(4, 40, .agg #[.slice pv.A pv.n pv.c, iv fuel, iv 0, iv shared, iv 0, iv 0, .slice none 0 0, .slice none 0 0, .slice none 0 0, .slice none 0 0, .slice none 0 0, .map (some bp), iv 0, iv 0, .slice none 0 0, iv 0])] ha fun a ha => ?_
 refine jK (qV 41 [.slice pv.A pv.n pv.c, iv fuel, iv 0, iv shared, iv 0, iv 0, .slice none 0 0, .slice none 0 0, .slice none 0 0, .slice none 0 0, .slice none 0 0, .map (some bp), iv 0, iv 0, .slice none 0 0, iv 0] 105 (ptr · 0) ha hS fun bm w a hb12 hS ha => ?_)
 refine jQ [(6, 12, ptr bm 0)] ha fun a ha => ?_
 refine jY ?_
 replace ha := ha.as [(1, iv f), (2, iv arg), (10, .pointer none), (11, .bool false), (12, ptr bm 0)] rfl
 refine jJ (wp_seq (jX [0, 1, 2, 3, 4] (jQ [(0, 42, ptr bm 0), (1, 43, iv f), (2, 44, iv arg)] ha fun a ha => ?_)))
 replace hS : Sat w0 w ((MB bm pv fuel 0 shared 0 0 (⟨none, 0, 0⟩) (⟨none, 0, 0⟩) (⟨none, 0, 0⟩) (⟨none, 0, 0⟩) (⟨none, 0, 0⟩) bp) :: (xZ bp []) :: (SX.blk b1 [.slice pv.A pv.n pv.c] 35) :: []) := hS
 replace hS : Sat w0 w ((mch bm pv fuel (MS.start shared)) :: (SX.blk b1 [.slice pv.A pv.n pv.c] 35) :: []) := mch_start (pv := pv) hS
 refine jK (xJ 45 (vs := [ptr bm 0, iv f, iv arg]) ha (first_done hP (pv := pv) (sbs := sbs) hS (start_ok shared hfu.1 hfu.2) rfl hff.1 hff.2 (hPr.keeps _) hres) fun v13 w a hp14 ha => ?_)
 obtain ⟨bd, rfl, hS⟩ := hp14
 obtain ⟨s, t, hs, hS⟩ := Sat.openMF hS
 replace hS : Sat w0 w ((MB bm pv fuel m1.made m1.shared m1.depth m1.deepest s.tr s.ow s.ca s.pa s.re s.bp) :: (rE s.tr m1.trace) :: (rI s.ow m1.owners) :: (rC s.ca m1.calls) :: (rP s.pa s.us) :: (jG (xH s.us)) :: (rV s.re m1.recs) :: (xZ s.bp m1.places) :: (FB bd f1.id f1.fn f1.r0 f1.r1 f1.r2 f1.r3 t (.pointer none) f1.dfr f1.cnt f1.lvg f1.en f1.pan) :: (rQ t f1.runs) :: (SX.blk b1 [.slice pv.A pv.n pv.c] 35) :: []) := hS
 refine jQ [(4, 13, ptr bd 0)] ha fun a ha => ?_
 refine jY (jJ (wp_seq (xY 12 13 hS fun w hS => ?_)))
 refine jZ (k := 9) [(0, 46, ptr bm 0), (1, 47, ptr bm 0), (2, 48, ptr bm 0), (3, 49, ptr bm 6)] ha (.inr hS) fun a ha => ?_
 refine qW 4 (d := 50) (b := bm) (j := 6) ha hS (fun _ hw => hw.blk 0 rfl) rfl fun a ha => ?_
 refine jZ (k := 5) [(5, 51, ptr bm 0), (6, 52, ptr bm 0), (7, 53, ptr bm 2)] ha (.inr hS) fun a ha => ?_
 refine qW 8 (d := 54) (b := bm) (j := 2) ha hS (fun _ hw => hw.blk 0 rfl) rfl fun a ha => ?_
 refine jZ (k := 1) [(9, 55, .agg #[iv 4, iv 0, .slice s.tr.A s.tr.n s.tr.c, iv m1.made]), (10, 56, ptr bm 0), (11, 57, ptr bm 12)] ha (.inr hS) fun a ha => ?_
 refine jU 12 (o_sa 0 ha (xV (t := 103) (x := 57) (y := 55)) hS fun w a hS ha => ?_)
 refine xX (qU ?_)
 replace ha := ha.as [(10, .pointer none), (11, .bool false), (12, ptr bm 0), (13, ptr bd 0)] rfl
 refine jJ (wp_seq (wp_seq (jX [0, 1] (jQ [(0, 58, ptr bd 0), (1, 59, .bool true)] ha fun a ha => ?_))))
 refine jY (jJ ?_)
 refine jV ha rfl rfl ?_
 refine wp_seq (xY 17 22 hS fun w hS => ?_)
 refine jZ (k := 17) [(0, 60, ptr bm 0), (1, 61, ptr bm 0), (2, 62, ptr bd 0), (3, 63, ptr bd 0), (4, 64, ptr bd 11)] ha (.inr hS) fun a ha => ?_
 refine qW 5 (d := 65) (b := bd) (j := 11) ha hS (fun _ hw => hw.blk 8 rfl) rfl fun a ha => ?_
 refine jZ (k := 13) [(6, 66, ptr bm 0), (7, 67, ptr bm 0), (8, 68, ptr bm 8)] ha (.inr hS) fun a ha => ?_
 refine qW 9 (d := 69) (b := bm) (j := 8) ha hS (fun _ hw => hw.blk 0 rfl) rfl fun a ha => ?_
 refine yY 10 (.pointer (some ⟨bk s.ca, 0 * 6, none⟩)) ha (zX (s := s.ca) (el := 161) (sz := 6) (j := 0) ha (yU (op := (Op.indexAddr 98 (Operand.tmp 69) (Operand.const (Value.int IntKind.i64 0)))) (d := some 70) (ty := 0)) rfl rfl (by kernel_rfl) (by kernel_rfl) (hS.rowA (s := s.ca) 3 rfl (by have := (List.getElem?_eq_some_iff.1 hc0).1; rw [encC_length]; omega)) (rfl) (by have h9 := hS.rowL (s := s.ca) (enc := cellsC) 3 zK (by decide) rfl; have := (List.getElem?_eq_some_iff.1 hc0).1; omega)) (.inr hS) fun a ha => ?_
 refine jZ (k := 9) [(11, 71, .pointer (some ⟨bk s.ca, 0 * 6, none⟩)), (12, 72, .pointer (some ⟨bk s.ca, 0 * 6 + 4, none⟩))] ha (.inr hS) fun a ha => ?_
 refine zW 13 (iv c0.val) ha (zU ha (zV (t := 3) (x := 72) (d := 73) (ty := 3)) rfl (by kernel_rfl) (fun w' hw => ((hw.rdC (s := s.ca) 3 rfl)).cells _ _ ((flat_get (enc := cellsC) (o := 4) zK hc0 (by decide)).trans rfl))) hS fun a ha => ?_
 refine jZ (k := 5) [(14, 74, ptr bm 0), (15, 75, ptr bm 12), (16, 76, ptr bm 12)] ha (.inr hS) fun a ha => ?_
 refine jU 17 (xU bm 12 (iv f1.en) 0 ha hS rfl rfl fun w a hS ha => ?_)
 refine xX (jZ (k := 1) [(18, 77, ptr bm 0), (19, 78, ptr bm 12), (20, 79, ptr bm 13)] ha (.inl (by kernel_rfl)) fun a ha => ?_)
 refine jU 21 (xU bm 13 (iv c0.val) 0 ha hS rfl rfl fun w a hS ha => ?_)
 refine xX (qU ?_)
 replace ha := ha.as [(10, .pointer none), (11, .bool false), (12, ptr bm 0), (13, ptr bd 0)] rfl
 refine jJ (wp_seq (jX [0, 1, 2, 3, 4] (jQ [(0, 80, ptr bd 0), (1, 81, ptr bd 0), (2, 82, ptr bd 11)] ha fun a ha => ?_)))
 refine qQ (d := 83) (b := bd) (j := 11) ha (hS.blk 8 rfl) rfl fun a ha => ?_
 refine jQ [(4, 84, .bool (decide (f1.en = 2)))] ha fun a ha => ?_
 refine jY (jJ ?_)
 by_cases c15 : f1.en = 2
 ·
  refine jV ha rfl (decide_eq_true c15) ?_
  have hpn := hof.pan c15
  obtain ⟨x, hx⟩ := us_get hs hpn.1 hpn.2
  refine xY 10 11 hS fun w hS => ?_
  refine jZ (k := 8) [(0, 85, ptr bm 0), (1, 86, ptr bm 0), (2, 87, ptr bm 9)] ha (.inr hS) fun a ha => ?_
  refine qW 3 (d := 88) (b := bm) (j := 9) ha hS (fun _ hw => hw.blk 0 rfl) rfl fun a ha => ?_
  refine jZ (k := 4) [(4, 89, ptr bd 0), (5, 90, ptr bd 0), (6, 91, ptr bd 12)] ha (.inr hS) fun a ha => ?_
  refine qW 7 (d := 92) (b := bd) (j := 12) ha hS (fun _ hw => hw.blk 8 rfl) rfl fun a ha => ?_
  refine yY 8 (.pointer (some ⟨bk s.pa, f1.pan.toNat * 9, none⟩)) ha (zX (s := s.pa) (el := 171) (sz := 9) (j := f1.pan.toNat) ha (yH (t := 99) (x := 88) (y := 92) (d := 93)) rfl rfl (by kernel_rfl) (by kernel_rfl) (hS.rowA (s := s.pa) 4 rfl (by have := (List.getElem?_eq_some_iff.1 hx).1; rw [encP_length]; omega)) ((Int.toNat_of_nonneg hpn.1).symm) (by have h9 := hS.rowL (s := s.pa) (enc := cellsP) 4 yG (by decide) rfl; have := (List.getElem?_eq_some_iff.1 hx).1; omega)) (.inr hS) fun a ha => ?_
  refine jZ (k := 1) [(9, 94, .pointer (some ⟨bk s.pa, f1.pan.toNat * 9 + 4, none⟩))] ha (.inr hS) fun a ha => ?_
  refine jU 10 (zG (s := s.pa) (j := f1.pan.toNat * 9 + 4) (xs := encP s.us) (xs' := encP (s.us.set f1.pan.toNat (({ x.1 with fate := 3 } : PanI), x.2))) 4 ha (yU (op := (Op.store 3 (Operand.tmp 94) (Operand.const (Value.int IntKind.i64 3)))) (ty := 0)) rfl rfl rfl (by kernel_rfl) hS rfl (by have := (List.getElem?_eq_some_iff.1 hx).1; rw [encP_length]; omega) ((flat_set (enc := cellsP) (x' := (({ x.1 with fate := 3 } : PanI), x.2)) yG hx (by decide) rfl)) (fun w a (hS : Sat w0 w ((SX.blk bm [.slice pv.A pv.n pv.c, iv fuel, iv m1.made, iv m1.shared, iv m1.depth, iv m1.deepest, .slice s.tr.A s.tr.n s.tr.c, .slice s.ow.A s.ow.n s.ow.c, .slice s.ca.A s.ca.n s.ca.c, .slice s.pa.A s.pa.n s.pa.c, .slice s.re.A s.re.n s.re.c, .map (some s.bp), iv f1.en, iv c0.val, .slice s.tr.A s.tr.n s.tr.c, iv m1.made] 105) :: (rE s.tr m1.trace) :: (rI s.ow m1.owners) :: (rC s.ca m1.calls) :: (rP s.pa (s.us.set f1.pan.toNat (({ x.1 with fate := 3 } : PanI), x.2))) :: (jG (xH s.us)) :: (rV s.re m1.recs) :: (xZ s.bp m1.places) :: (FB bd f1.id f1.fn f1.r0 f1.r1 f1.r2 f1.r3 t (.pointer none) f1.dfr f1.cnt f1.lvg f1.en f1.pan) :: (rQ t f1.runs) :: (SX.blk b1 [.slice pv.A pv.n pv.c] 35) :: [])) ha => ?_))
  refine xX (qU ?_)
  replace ha := ha.as [(10, .pointer none), (11, .bool false), (12, ptr bm 0)] rfl
  refine jJ (wp_seq (jX [0, 1, 2] (jQ [(0, 95, ptr bm 0), (1, 10, ptr bm 0), (2, 11, .bool true)] ha fun a ha => ?_)))
  refine jY (jJ (wp_ret ?_))
  refine end_tmp2 (t := 10) (u := 11) ha (by kernel_rfl) rfl rfl ?_
  replace hS : Sat w0 w ((SX.blk bm [.slice pv.A pv.n pv.c, iv fuel, iv m1.made, iv m1.shared, iv m1.depth, iv m1.deepest, .slice s.tr.A s.tr.n s.tr.c, .slice s.ow.A s.ow.n s.ow.c, .slice s.ca.A s.ca.n s.ca.c, .slice s.pa.A s.pa.n s.pa.c, .slice s.re.A s.re.n s.re.c, .map (some s.bp), iv f1.en, iv c0.val, .slice s.tr.A s.tr.n s.tr.c, iv m1.made] 105) :: (rE s.tr m1.trace) :: (rI s.ow m1.owners) :: (rC s.ca m1.calls) :: (rP s.pa (s.us.set f1.pan.toNat (({ x.1 with fate := 3 } : PanI), x.2))) :: (jG (xH (s.us.set f1.pan.toNat (({ x.1 with fate := 3 } : PanI), x.2)))) :: (rV s.re m1.recs) :: (xZ s.bp m1.places) :: (FB bd f1.id f1.fn f1.r0 f1.r1 f1.r2 f1.r3 t (.pointer none) f1.dfr f1.cnt f1.lvg f1.en f1.pan) :: (rQ t f1.runs) :: (SX.blk b1 [.slice pv.A pv.n pv.c] 35) :: []) := by have e : xH (s.us.set f1.pan.toNat (({ x.1 with fate := 3 } : PanI), x.2)) = xH s.us := unwL_set hx rfl rfl; rw [e]; exact hS
  replace hS := hS.pickN 11 [0, 1, 2, 3, 4, 5, 6, 7]
  refine ⟨bm, rfl, ?_⟩
  have hE : runS (PL l) shared f arg fuel = ⟨(⟨m1.made, m1.shared, m1.depth, m1.deepest, m1.trace, m1.owners, m1.calls, (panAt m1.panics f1.pan (fun z => { z with fate := 3 })), m1.recs, m1.places⟩ : MS), f1.en, c0.val⟩ := by unfold runS; rw [hres]; simp [runOf, hc0, List.getD, c15]
  rw [hE]
  exact Sat.shutMO (r := ⟨(⟨m1.made, m1.shared, m1.depth, m1.deepest, m1.trace, m1.owners, m1.calls, (panAt m1.panics f1.pan (fun z => { z with fate := 3 })), m1.recs, m1.places⟩ : MS), f1.en, c0.val⟩) (⟨s.tr, s.ow, s.ca, s.pa, s.re, (s.us.set f1.pan.toNat (({ x.1 with fate := 3 } : PanI), x.2)), s.bp⟩ : MSl) (panAt_us (g := fun z => { z with fate := 3 }) hs hx) hS
 refine jW ha rfl (decide_eq_false c15) ?_
 refine wp_skip (jJ (wp_seq (jX [0, 1, 2] (jQ [(0, 95, ptr bm 0), (1, 10, ptr bm 0), (2, 11, .bool true)] ha fun a ha => ?_))))
 refine jY (jJ (wp_ret ?_))
 refine end_tmp2 (t := 10) (u := 11) ha (by kernel_rfl) rfl rfl ?_
 replace hS := hS.pickN 11 [0, 1, 2, 3, 4, 5, 6, 7]
 refine ⟨bm, rfl, ?_⟩
 have hE : runS (PL l) shared f arg fuel = ⟨(⟨m1.made, m1.shared, m1.depth, m1.deepest, m1.trace, m1.owners, m1.calls, m1.panics, m1.recs, m1.places⟩ : MS), f1.en, c0.val⟩ := by unfold runS; rw [hres]; simp [runOf, hc0, List.getD, c15]
 rw [hE]
 exact Sat.shutMO (r := ⟨(⟨m1.made, m1.shared, m1.depth, m1.deepest, m1.trace, m1.owners, m1.calls, m1.panics, m1.recs, m1.places⟩ : MS), f1.en, c0.val⟩) (⟨s.tr, s.ow, s.ca, s.pa, s.re, s.us, s.bp⟩ : MSl) (hs) hS
theorem ranFrom_spent (w0 : World) (pv : Sl) (l : List (List GS)) (f arg fuel shared : Int) (hn : pv.n = l.length) (hr : Kd.C (Kd.slice 176 k176) w0 pv.A l.length l) (hc : l.length ≤ pv.c) (hask : askB l f arg fuel = true) (m1 : MS) (hres : callS (PL l) fuel 8 (MS.start shared) f arg none 0 false = .spent m1) :
  Calls Try.prog 104 #[.agg #[pv.v], .int .i64 f, .int .i64 arg, .int .i64 fuel, .int .i64 shared] w0 (Ret fun r w' => ∃ bm, r = .tuple #[.pointer (some ⟨bm, 0, none⟩), .bool true] ∧ Sat w0 w' [mchO bm pv fuel (runS (PL l) shared f arg fuel)]) := by
 have hl : l.length ≤ 9223372036854775807 := hr.2.1
 have hrd : ∀ {w' : World} {Rs' : List Asn}, Sat w0 w' Rs' → Kd.C (Kd.slice 176 k176) w' pv.A l.length l := fun h => Kd.C_below hr h.below
 have hS := Sat.start w0
 simp only [askB, Bool.and_eq_true] at hask
 obtain ⟨⟨⟨hq1, hq2⟩, hq3⟩, hq4⟩ := hask
 have hP := progOk_of hq1
 obtain ⟨sbs, hPr⟩ := rdProg_of (c := pv.c) hr
 rw [← hn] at hPr
 rw [← hn] at hq2
 have hff : 0 ≤ f ∧ f < (PL l).length := by rw [PL_length, ← hn]; simp only [inB, Bool.and_eq_true, decide_eq_true_eq] at hq2; omega
 have hfu : 0 ≤ fuel ∧ fuel ≤ 200 := by simp only [inB, Bool.and_eq_true, decide_eq_true_eq] at hq4; exact hq4
 refine enter (n := 96) Try.func104 code104 (by kernel_rfl) (Nat.le_of_ble_eq_true rfl) (fun a ha => ?_)
 replace ha : Has 96 [(0, .agg #[.slice pv.A pv.n pv.c]), (1, iv f), (2, iv arg), (3, iv fuel), (4, iv shared)] a := ha
 refine wp_seq (jX [0, 1, 2] (jK (qV 5 [.slice pv.A pv.n pv.c] 35 (ptr · 0) ha hS fun b1 w a hb2 hS ha => ?_)))
 refine jQ [(1, 10, .pointer none), (2, 11, .bool false)] ha fun a ha => ?_
 refine jY (jJ (wp_seq (wp_seq (jX [0, 1, 2, 3, 4, 5, 6, 7, 8, 9, 10, 11, 12, 13, 14, 15, 16, 17, 18, 19, 20, 21] (zY 14 ha (hS.blk 0 rfl) fun a ha => ?_)))))
 refine jK (o_ret (Post := fun r_ w' => r_ = .bool (programB l) ∧ Sat w0 w' ((SX.blk b1 [.slice pv.A pv.n pv.c] 35) :: [])) ha (by decide) (yU (op := (Op.call { callee := (Callee.value (Operand.func 84)), args := #[(Operand.tmp 14)], argTypes := #[35] })) (d := some 15) (ty := 4)) rfl Try.func84 (by kernel_rfl) (by have h9 := prog_sat (A := pv.A) (c := pv.c) hS (hrd hS) hc; rw [← hn] at h9; exact h9) (fun v3 w a hp4 ha => ?_))
 obtain ⟨rfl, hS⟩ := hp4
 have ha : Has 96 [(1, iv f), (2, iv arg), (3, iv fuel), (4, iv shared), (5, ptr b1 0), (10, .pointer none), (11, .bool false), (14, .agg #[.slice pv.A pv.n pv.c]), (15, .bool (programB l))] a := ha.keeps [1, 2, 3, 4, 5, 10, 11, 14, 15] _ rfl
 refine jQ [(2, 16, .bool (!((programB l)))), (3, 17, .bool (!((programB l))))] ha fun a ha => ?_
 replace ha := ha.turn 15 (.bool true) rfl (congrArg Value.bool hq1)
 replace ha := ha.turn 16 (.bool false) rfl (congrArg Value.bool (zJ hq1))
 replace ha := ha.turn 17 (.bool false) rfl (congrArg Value.bool (zJ hq1))
 refine jQ [(4, 18, iv f), (5, 19, ptr b1 0)] ha fun a ha => ?_
 refine qQ (d := 20) (b := b1) (j := 0) ha (hS.blk 0 rfl) rfl fun a ha => ?_
 refine jQ [(7, 21, iv (pv.n : Int))] ha fun a ha => ?_
 refine zZ 22 ((pv.n : Int) - 1) ha fun a ha => ?_
 refine jK (xJ 23 (vs := [iv f, iv 0, iv ((pv.n : Int) - 1)]) ha (in_sat hS _ _ _) fun v5 w a hp6 ha => ?_)
 obtain ⟨rfl, hS⟩ := hp6
 refine jQ [(10, 24, .bool (!((inB f 0 ((pv.n : Int) - 1))))), (11, 25, .bool (!((inB f 0 ((pv.n : Int) - 1))))), (12, 26, .bool (!((inB f 0 ((pv.n : Int) - 1)))))] ha fun a ha => ?_
 replace ha := ha.turn 23 (.bool true) rfl (congrArg Value.bool hq2)
 replace ha := ha.turn 24 (.bool false) rfl (congrArg Value.bool (zJ hq2))
 replace ha := ha.turn 25 (.bool false) rfl (congrArg Value.bool (zJ hq2))
 replace ha := ha.turn 26 (.bool false) rfl (congrArg Value.bool (zJ hq2))
 refine jQ [(13, 27, iv arg)] ha fun a ha => ?_
 refine jK (xJ 28 (vs := [iv arg]) ha (num_sat hS _) fun v7 w a hp8 ha => ?_)
 obtain ⟨rfl, hS⟩ := hp8
 refine jQ [(15, 29, .bool (!((numB arg)))), (16, 30, .bool (!((numB arg)))), (17, 31, .bool (!((numB arg))))] ha fun a ha => ?_
 replace ha := ha.turn 28 (.bool true) rfl (congrArg Value.bool hq3)
 replace ha := ha.turn 29 (.bool false) rfl (congrArg Value.bool (zJ hq3))
 replace ha := ha.turn 30 (.bool false) rfl (congrArg Value.bool (zJ hq3))
 replace ha := ha.turn 31 (.bool false) rfl (congrArg Value.bool (zJ hq3))
 refine jQ [(18, 32, iv fuel)] ha fun a ha => ?_
 refine jK (xJ 33 (vs := [iv fuel, iv 0, iv 200]) ha (in_sat hS _ _ _) fun v9 w a hp10 ha => ?_)
 obtain ⟨rfl, hS⟩ := hp10
 refine jQ [(20, 34, .bool (!((inB fuel 0 200)))), (21, 35, .bool (!((inB fuel 0 200))))] ha fun a ha => ?_
 refine jY (jJ ?_)
 refine jW ha rfl (zJ hq4) ?_
 refine wp_skip (jJ (wp_seq (jX [0, 1, 2, 3, 4, 5, 6] (zY 36 ha (hS.blk 0 rfl) fun a ha => ?_))))
 refine jQ [(1, 37, iv fuel), (2, 38, iv shared)] ha fun a ha => ?_
 refine jK (o_makeMap ha (by decide) (yU (op := (Op.makeMap 101 none)) (d := some 39) (ty := 101)) hS (fun bp w a hb11 (hS : Sat w0 w ((xZ bp []) :: (SX.blk b1 [.slice pv.A pv.n pv.c] 35) :: [])) ha => ?_))
 refine jQ [(4, 40, .agg #[.slice pv.A pv.n pv.c, iv fuel, iv 0, iv shared, iv 0, iv 0, .slice none 0 0, .slice none 0 0, .slice none 0 0, .slice none 0 0, .slice none 0 0, .map (some bp), iv 0, iv 0, .slice none 0 0, iv 0])] ha fun a ha => ?_
 refine jK (qV 41 [.slice pv.A pv.n pv.c, iv fuel, iv 0, iv shared, iv 0, iv 0, .slice none 0 0, .slice none 0 0, .slice none 0 0, .slice none 0 0, .slice none 0 0, .map (some bp), iv 0, iv 0, .slice none 0 0, iv 0] 105 (ptr · 0) ha hS fun bm w a hb12 hS ha => ?_)
 refine jQ [(6, 12, ptr bm 0)] ha fun a ha => ?_
 refine jY ?_
 replace ha := ha.as [(1, iv f), (2, iv arg), (10, .pointer none), (11, .bool false), (12, ptr bm 0)] rfl
 refine jJ (wp_seq (jX [0, 1, 2, 3, 4] (jQ [(0, 42, ptr bm 0), (1, 43, iv f), (2, 44, iv arg)] ha fun a ha => ?_)))
 replace hS : Sat w0 w ((MB bm pv fuel 0 shared 0 0 (⟨none, 0, 0⟩) (⟨none, 0, 0⟩) (⟨none, 0, 0⟩) (⟨none, 0, 0⟩) (⟨none, 0, 0⟩) bp) :: (xZ bp []) :: (SX.blk b1 [.slice pv.A pv.n pv.c] 35) :: []) := hS
 replace hS : Sat w0 w ((mch bm pv fuel (MS.start shared)) :: (SX.blk b1 [.slice pv.A pv.n pv.c] 35) :: []) := mch_start (pv := pv) hS
 refine jK (xJ 45 (vs := [ptr bm 0, iv f, iv arg]) ha (first_spent hP (pv := pv) (sbs := sbs) hS (start_ok shared hfu.1 hfu.2) rfl hff.1 hff.2 (hPr.keeps _) hres) fun v13 w a hp14 ha => ?_)
 obtain ⟨rfl, hS⟩ := hp14
 obtain ⟨s, hs, hS⟩ := Sat.openM hS
 replace hS : Sat w0 w ((MB bm pv fuel m1.made m1.shared m1.depth m1.deepest s.tr s.ow s.ca s.pa s.re s.bp) :: (rE s.tr m1.trace) :: (rI s.ow m1.owners) :: (rC s.ca m1.calls) :: (rP s.pa s.us) :: (jG (xH s.us)) :: (rV s.re m1.recs) :: (xZ s.bp m1.places) :: (SX.blk b1 [.slice pv.A pv.n pv.c] 35) :: []) := hS
 refine jQ [(4, 13, .pointer none)] ha fun a ha => ?_
 refine jY (jJ (wp_seq (xY 12 13 hS fun w hS => ?_)))
 refine jZ (k := 9) [(0, 46, ptr bm 0), (1, 47, ptr bm 0), (2, 48, ptr bm 0), (3, 49, ptr bm 6)] ha (.inr hS) fun a ha => ?_
 refine qW 4 (d := 50) (b := bm) (j := 6) ha hS (fun _ hw => hw.blk 0 rfl) rfl fun a ha => ?_
 refine jZ (k := 5) [(5, 51, ptr bm 0), (6, 52, ptr bm 0), (7, 53, ptr bm 2)] ha (.inr hS) fun a ha => ?_
 refine qW 8 (d := 54) (b := bm) (j := 2) ha hS (fun _ hw => hw.blk 0 rfl) rfl fun a ha => ?_
 refine jZ (k := 1) [(9, 55, .agg #[iv 4, iv 0, .slice s.tr.A s.tr.n s.tr.c, iv m1.made]), (10, 56, ptr bm 0), (11, 57, ptr bm 12)] ha (.inr hS) fun a ha => ?_
 refine jU 12 (o_sa 0 ha (xV (t := 103) (x := 57) (y := 55)) hS fun w a hS ha => ?_)
 refine xX (qU ?_)
 replace ha := ha.as [(10, .pointer none), (11, .bool false), (12, ptr bm 0), (13, .pointer none)] rfl
 refine jJ (wp_seq (wp_seq (jX [0, 1] (jQ [(0, 58, .pointer none), (1, 59, .bool false)] ha fun a ha => ?_))))
 refine jY (jJ ?_)
 refine jW ha rfl rfl ?_
 refine wp_skip (jJ (wp_seq (jX [0, 1, 2] (jQ [(0, 95, ptr bm 0), (1, 10, ptr bm 0), (2, 11, .bool true)] ha fun a ha => ?_))))
 refine jY (jJ (wp_ret ?_))
 refine end_tmp2 (t := 10) (u := 11) ha (by kernel_rfl) rfl rfl ?_
 replace hS := hS.pickN 9 [0, 1, 2, 3, 4, 5, 6, 7]
 refine ⟨bm, rfl, ?_⟩
 have hE : runS (PL l) shared f arg fuel = ⟨(⟨m1.made, m1.shared, m1.depth, m1.deepest, m1.trace, m1.owners, m1.calls, m1.panics, m1.recs, m1.places⟩ : MS), 4, 0⟩ := by unfold runS; rw [hres]; rfl
 rw [hE]
 exact Sat.shutMO (r := ⟨(⟨m1.made, m1.shared, m1.depth, m1.deepest, m1.trace, m1.owners, m1.calls, m1.panics, m1.recs, m1.places⟩ : MS), 4, 0⟩) (⟨s.tr, s.ow, s.ca, s.pa, s.re, s.us, s.bp⟩ : MSl) (hs) hS
end SX
namespace SX
open Go.RowKit Go.Proofs.Ytjkoibfkklhaiaa.G Go.Proofs.YtjkoibfkklhaiaaW.PrintWords Go.Proofs.YtjkoibfkklhaiaaW.PrintLast Go.Proofs.YtjkoibfkklhaiaaW.PrintMore
theorem bodyS_id {fuel : Int} {call : CallT} {steps : List Stp} {p : Option FS} : ∀ (k : Nat) (m : MS) (f : FS) (o : Int) (at_ : Nat) {m' : MS} {f' : FS} {o' : Int}, bodyS fuel call steps p k m f o at_ = .done m' f' o' → f'.id = f.id := by
  intro k
  induction k with
  | zero => intro m f o at_ m' f' o' h; simp [bodyS] at h
  | succ k ih =>
    intro m f o at_ m' f' o' h;simp only [bodyS] at h
    split at h
    · simp only [R3.done.injEq] at h; obtain ⟨_, rfl, _⟩ := h; rfl
    · split at h
      · cases h
      · split at h
        · exact ih _ _ _ _ h
        · split at h
          · cases h
          · rename_i hst
            simp only [R3.done.injEq] at h; obtain ⟨_, rfl, _⟩ := h;exact (stepS_fix hst).2.2
          · rename_i hst
            exact (ih _ _ _ _ h).trans (stepS_fix hst).2.2
theorem runsS_id {call : CallT} {p : Option FS} : ∀ (k : Nat) (m : MS) (f : FS) (o : Int) {m' : MS} {f' : FS} {o' : Int}, runsS call k m f p o = .done m' f' o' → f'.id = f.id := by
  intro k
  induction k with
  | zero => intro m f o m' f' o' h; simp only [runsS, R3.done.injEq] at h; obtain ⟨_, rfl, _⟩ := h; rfl
  | succ k ih =>
    intro m f o m' f' o' h;simp only [runsS] at h
    split at h
    · simp only [R3.done.injEq] at h; obtain ⟨_, rfl, _⟩ := h; rfl
    · split at h
      · cases h
      · rename_i d o1 _
        have := ih _ _ _ h;rw [this];unfold yK
        (repeat' split) <;> rfl
def valOf (m : MS) (f : FS) : Int := if f.en = 1 then f.r1 else if f.en = 2 then panVal m.panics f.pan else 0
theorem first_val {P : List (List Stp)} (hP : ProgOk P) {fuel shared f arg : Int} (hm : OkM fuel (MS.start shared) (10 + 2)) (h0 : 0 ≤ f) (h1 : f < P.length) {m1 : MS} {f1 : FS} {o1 : Int} (h : callS P fuel 8 (MS.start shared) f arg none 0 false = .done m1 f1 o1) :
    (m1.calls.getD 0 ⟨0, 0, false, 0, 0, 0⟩).val = valOf m1 f1 := by
  have hok := callS_ok hP fuel 7
  have hlt : f.toNat < P.length := by omega
  have hsteps : ∀ s ∈ P.getD f.toNat [], StpOk P.length s := by
    rw [List.getD_eq_getElem?_getD, List.getElem?_eq_getElem hlt];exact hP.steps _ (List.getElem_mem hlt)
  simp only [callS] at h
  split at h
  · cases h
  · rename_i m2 f2 o2 hb
    split at h
    · cases h
    · rename_i m3 f3 o3 hr
      simp only [R3.done.injEq] at h;obtain ⟨rfl, rfl, rfl⟩ := h;have hme : OkM fuel ((MS.start shared).enter f arg (parId none) false) (10 + 1) := OkM.enter hm _ _ _ _
      have hfe : OkF P.length ((MS.start shared).enter f arg (parId none) false) ((MS.start shared).frame f arg false) := by
        refine ⟨?_, ?_, h0, h1, .inl rfl, fun e => by simp [MS.frame] at e, fun z hz => by simp [MS.frame] at hz⟩
        · simp only [MS.frame]; omega
        · simp only [MS.frame, MS.enter, MS.tell, List.length_append, List.length_cons, List.length_nil]; omega
      obtain ⟨g1, g2, g3⟩ := bodyS_ok (x := 10 + 1) hok hsteps _ _ _ _ _ (by simpa [MS.frame] using hme) hfe hb;obtain ⟨k1, k2, k3, k4⟩ := runsS_ok (x := 10 + 1) hok _ _ _ _ rfl g1 g3 hr;have hid : f3.id = 0 := (runsS_id _ _ _ _ hr).trans ((bodyS_id _ _ _ _ _ hb).trans rfl);have hl := k3.id1;rw [hid] at hl;obtain ⟨c0, hc0⟩ : ∃ c, m3.calls[0]? = some c := ⟨_, List.getElem?_eq_getElem (by omega)⟩
      have e : (finishS m3 f3).calls.getD 0 ⟨0, 0, false, 0, 0, 0⟩ = { c0 with en := f3.en, val := finVal m3 f3 } := by
        simp only [finishS, MS.tell, hid];rw [List.getD_eq_getElem?_getD, List.getElem?_modify, Int.toNat_zero, hc0]
        rfl
      show ((finishS m3 f3).calls.getD 0 ⟨0, 0, false, 0, 0, 0⟩).val = _
      rw [e];unfold valOf finVal;simp only [finishS, MS.tell]
      by_cases e1 : f3.en = 1
      · rw [if_pos e1, if_pos e1]
      · rw [if_neg e1, if_neg e1]
        by_cases e2 : f3.en = 2
        · rw [if_pos e2, if_pos e2, if_pos e2, panVal_panAt _ _ (fun x => { x with unw := x.unw ++ [f3.fn] }) (fun _ => rfl)]
        · rw [if_neg e2, if_neg e2]
def qStart (shared : Int) : MQ := { spent := false, shared := shared, made := 0, deep := 0, trace := [], seen := [] }
theorem qStart_ok {shared fuel : Int} (hs : -32768 ≤ shared ∧ shared ≤ 32767) (hf : 0 ≤ fuel ∧ fuel ≤ 200) : OkQ fuel (qStart shared) (10 + 2) := ⟨rfl, Int.le_refl _, hf.1, hf.2, by simp only [qStart, List.length_nil]; omega, by simp [qStart], hs⟩
def qRun (P : List (List Stp)) (shared f arg fuel : Int) : MQ × FQ := qCall P fuel 8 (qStart shared) (FQ.new f 1 arg)
def qKind (q : MQ × FQ) : Int := if q.1.spent = true then 4 else q.2.kind
def qVal (q : MQ × FQ) : Int := if q.1.spent = true then 0 else if q.2.kind = 1 then q.2.r1 else if q.2.kind = 2 then q.2.value else 0
structure Same (q : MQ × FQ) (r : RunR) : Prop where
 kind : qKind q = r.k
 val : qVal q = r.v
 made : q.1.made = r.m.made
 shared : q.1.shared = r.m.shared
 deep : q.1.deep = r.m.deepest
 trace : q.1.trace = r.m.trace
 seen : q.1.seen = r.m.places
theorem run_eq {P : List (List Stp)} (hP : ProgOk P) {shared f arg fuel : Int} (h0 : 0 ≤ f) (h1 : f < P.length) (hf : 0 ≤ fuel ∧ fuel ≤ 200) : Same (qRun P shared f arg fuel) (runS P shared f arg fuel) := by
  have hm := start_ok shared hf.1 hf.2
  have hE := call_eq hP fuel 8 (MS.start shared) (qStart shared) f arg none 0 false (FQ.new f 1 arg) 10 ⟨rfl, rfl, rfl, rfl, rfl⟩ rfl hm (fun q h => by cases h) h0 h1 rfl rfl rfl rfl rfl rfl rfl rfl rfl ⟨rfl, fun h => by simp [FQ.new] at h, fun h => by simp [FQ.new] at h⟩ rfl
  unfold runS qRun
  cases hr : callS P fuel 8 (MS.start shared) f arg none 0 false with
  | spent m1 =>
    rw [hr] at hE;obtain ⟨e1, e2⟩ := hE;exact ⟨by unfold qKind; rw [if_pos e1]; rfl, by unfold qVal; rw [if_pos e1]; rfl, e2.made, e2.shared, e2.deep, e2.trace, e2.seen⟩
  | done m1 f1 o1 =>
    rw [hr] at hE;have hv := first_val hP hm h0 h1 hr;have hsp : ¬ (qCall P fuel 8 (qStart shared) (FQ.new f 1 arg)).1.spent = true := by rw [hE.sp]; decide
    have rm : RM (runOf (.done m1 f1 o1)).m (qCall P fuel 8 (qStart shared) (FQ.new f 1 arg)).1 := by
      unfold runOf
      dsimp only
      split <;> exact ⟨hE.rm.made, hE.rm.shared, hE.rm.deep, hE.rm.trace, hE.rm.seen⟩
    refine ⟨by unfold qKind; rw [if_neg hsp]; exact hE.rf.en, ?_, rm.made, rm.shared, rm.deep, rm.trace, rm.seen⟩
    show qVal _ = (m1.calls.getD 0 ⟨0, 0, false, 0, 0, 0⟩).val
    rw [hv];unfold qVal valOf;rw [if_neg hsp, hE.rf.en]
    by_cases e1 : f1.en = 1
    · rw [if_pos e1, if_pos e1, hE.rf.a1]
    · rw [if_neg e1, if_neg e1]
      by_cases e2 : f1.en = 2
      · rw [if_pos e2, if_pos e2, hE.rf.val e2]
      · rw [if_neg e2, if_neg e2]
def cellsT (x : Stp) : List Value := [.int .i64 x.k, .int .i64 x.a, .int .i64 x.b]
def encT3 (l : List Stp) : List Value := l.flatMap cellsT
theorem cellsT_len (x : Stp) : (cellsT x).length = 3 := rfl
theorem encT3_length (l : List Stp) : (encT3 l).length = l.length * 3 := flat_length cellsT_len l
theorem encT3_one (l : List Stp) : (encT3 l).all Value.oneCell' = true := by
 rw [List.all_eq_true]
 intro v hv
 obtain ⟨x, _, hx⟩ := List.mem_flatMap.1 hv
 simp only [cellsT, List.mem_cons, List.not_mem_nil, or_false] at hx
 rcases hx with rfl | rfl | rfl <;> rfl
abbrev rowT (x : Sl × List Stp) : Asn := SX.row (.slice x.1.A x.1.n x.1.c) 176 3 (encT3 x.2)
theorem RdBody.cells {w : World} {s : Sl} {b : List Stp} (h : RdBody w s b) : ∀ j u, (encT3 b)[j]? = some u → w.cell? ⟨bk s, of_ s + j, none⟩ = some u := by
  intro j u hu
  have hl := (List.getElem?_eq_some_iff.1 hu).1
  rw [encT3_length] at hl
  have hj : j / 3 < b.length := by omega
  obtain ⟨x, hx⟩ : ∃ x, b[j / 3]? = some x := ⟨_, List.getElem?_eq_getElem hj⟩
  have h3 := h.k _ _ hx
  have h4 := h.a _ _ hx
  have h5 := h.b _ _ hx
  have hc := fun o (ho : o < 3) => flat_get (enc := cellsT) (o := o) cellsT_len hx ho
  have hr : j % 3 = 0 ∨ j % 3 = 1 ∨ j % 3 = 2 := by omega
  rcases hr with e | e | e
  · have e2 : j = j / 3 * 3 + 0 := by omega
    have h6 := hc 0 (by decide);rw [← e2, show (b.flatMap cellsT) = encT3 b from rfl, hu] at h6;rw [e2, Nat.add_zero, h3, h6]
    rfl
  · have e2 : j = j / 3 * 3 + 1 := by omega
    have h6 := hc 1 (by decide);rw [← e2, show (b.flatMap cellsT) = encT3 b from rfl, hu] at h6;rw [e2, ← Nat.add_assoc, h4, h6]
    rfl
  · have e2 : j = j / 3 * 3 + 2 := by omega
    have h6 := hc 2 (by decide);rw [← e2, show (b.flatMap cellsT) = encT3 b from rfl, hu] at h6;rw [e2, ← Nat.add_assoc, h5, h6]
    rfl
theorem own_reads {w0 w : World} {Rs : List Asn} {s : Sl} {us : List (Sl × List Stp)} {P : List (List Stp)} (hus : us.map (·.2) = P) (hS : Sat w0 w (SX.row (.slice s.A s.n s.c) 109 1 (encS (us.map (·.1))) :: jG (us.map rowT) :: Rs)) :
    RdProg w s (us.map (·.1)) P := by
  have hlen : us.length = P.length := by rw [← hus, List.length_map]
  have hn := hS.rowN (s := s) 0 rfl
  rw [encS_length, List.length_map, Nat.mul_one] at hn
  have hrd := hS.rdC (s := s) 0 rfl
  have hA : 0 < P.length → s.A = some ⟨bk s, 0, none⟩ := fun h => hS.rowA (s := s) 0 rfl (by rw [encS_length, List.length_map]; omega)
  have hof : 0 < P.length → of_ s = 0 := fun h => by have h9 := hA h; unfold of_; rw [h9]; rfl
  refine ⟨by omega, fun h => by rw [hof h]; exact hA h, fun i b hb => ?_⟩
  have hi : i < P.length := (List.getElem?_eq_some_iff.1 hb).1
  rw [← hus, List.getElem?_map] at hb
  obtain ⟨x, hx, rfl⟩ := Option.map_eq_some_iff.1 hb
  refine ⟨x.1, by rw [List.getElem?_map, hx]; rfl, ?_, ?_⟩
  · have h9 := hrd.cells i x.1.v (by rw [encS, List.getElem?_map, List.getElem?_map, hx]; rfl)
    rw [hof (by omega), Nat.zero_add];exact h9
  · have h1 : Sat w0 w (jG (us.map rowT) :: SX.row (.slice s.A s.n s.c) 109 1 (encS (us.map (·.1))) :: Rs) := hS.perm (List.Perm.swap _ _ _)
    have h2 := Sat.takeAt (g := rowT) hx h1;have hl := h2.rowL (s := x.1) (enc := cellsT) 0 cellsT_len (by decide) rfl;have hA2 : 0 < x.2.length → x.1.A = some ⟨bk x.1, 0, none⟩ := fun h => h2.rowA (s := x.1) 0 rfl (by rw [encT3_length]; omega);have ho2 : 0 < x.2.length → of_ x.1 = 0 := fun h => by have h9 := hA2 h; unfold of_; rw [h9]; rfl
    have hr2 := h2.rdC (s := x.1) 0 rfl
    have hc : ∀ (j : Nat) (y : Stp), x.2[j]? = some y → ∀ o, o < 3 → w.cell? ⟨bk x.1, of_ x.1 + j * 3 + o, none⟩ = (cellsT y)[o]? := fun j y hy o ho => by
      have hp : 0 < x.2.length := by have := (List.getElem?_eq_some_iff.1 hy).1; omega
      rw [ho2 hp, Nat.zero_add, ← flat_get (enc := cellsT) cellsT_len hy ho];obtain ⟨u, hu⟩ : ∃ u, (x.2.flatMap cellsT)[j * 3 + o]? = some u := ⟨_, (flat_get (enc := cellsT) cellsT_len hy ho).trans (List.getElem?_eq_getElem ho)⟩;rw [hu];exact hr2.cells _ _ hu
    exact ⟨hl, fun h => by rw [ho2 h]; exact hA2 h, fun j y hy => by have := hc j y hy 0 (by decide); rw [Nat.add_zero] at this; exact this, fun j y hy => hc j y hy 1 (by decide), fun j y hy => hc j y hy 2 (by decide)⟩
section
variable {P : Program} {R : Array Oper} {Q : Exit → Act → World → Prop} {n : Nat} {e : Env} {a : Act} {w w0 : World} {Rs : List Asn}
theorem run_append_owned_zero (base : Nat) (t ty e : TypeId) (i : TypeInfo) (size : Nat) (ht : P.underlying t = some (.slice e)) (hi : P.info? e = some i)
  (v : Value) (n : Nat) (xs : List Value) (hown : w.ownsRow base e size v n xs) (A : Option Addr) (c : Nat) :
  (Builtin.append_ #[t, t] ty #[v, .slice A 0 c]).run P w = .ok v w := by
 rcases hown.2 with ⟨rfl, rfl⟩ | ⟨g, cap, cur, rfl, _, _, hnc, _⟩
 · cases A <;> simp [Builtin.append_, run_underlying ht, sizeOf, typeInfo, hi, Builtin.lenOf, Builtin.firstCells, loadCells, loadCellsFrom, storeCells]
 · cases A <;> simp [Builtin.append_, run_underlying ht, sizeOf, typeInfo, hi, Builtin.lenOf, Builtin.firstCells, hnc, loadCells, loadCellsFrom, storeCells]
theorem o_appRd0 {i d : Nat} {s x : Operand} {t el ty : TypeId} {sz bytes b : Nat} {u : Sl} {ys : List Value} {z : Value} {K : Act → World → Prop} (p : Nat) (h : Has n e a) (hd : d < n)
    (ho : AtW R i (.call { callee := .builtin .append, args := #[s, x], argTypes := #[t, t] }) (some d) ty a) (hs : ev e s = some (.slice (some ⟨b, 0, none⟩) 0 0)) (hx : ev e x = some (.slice u.A u.n u.c))
    (ht : P.underlying t = some (.slice el)) (hinfo : (P.info? el).map (fun i => (i.zero, i.size, i.bytes)) = some (some z, sz, bytes)) (hz : z.cells.size = sz) (hsz : 0 < sz)
    (hS : Sat w0 w Rs) (hp : Rs[p]? = some (SX.blk b [] el)) (hl : ys.length = u.n * sz) (hA : 0 < u.n → u.A = some ⟨bk u, of_ u, none⟩) (hc : ∀ j v, ys[j]? = some v → w.cell? ⟨bk u, of_ u + j, none⟩ = some v) (h1 : ys.all Value.oneCell' = true) (hlen : ys.length ≤ 1000000000) (hby : bytes ≤ 100000 * sz)
    (k : ∀ (z : Sl) w' a', Sat w0 w' (Rs.set p (SX.row (.slice z.A z.n z.c) el sz ys)) → Has n ((d, .slice z.A z.n z.c) :: e) a' → K a' w') : wpOp P R Q i K a w := by
  obtain ⟨i0, hi, hzz⟩ := Option.map_eq_some_iff.1 hinfo
  simp only [Prod.mk.injEq] at hzz
  obtain ⟨hz0, hz1, hz2⟩ := hzz
  have hpl : p < Rs.length := (List.getElem?_eq_some_iff.1 hp).1
  have hS1 := hS.blk0 sz p hp
  obtain ⟨n0, hown⟩ := hS1.row p (by rw [List.getElem?_set_self hpl])
  have hn0 : n0 = 0 := by
    have h9 := hown.1;simp only [List.length_nil] at h9
    rcases Nat.eq_zero_or_pos n0 with h0 | h0
    · exact h0
    · have := Nat.mul_pos h0 hsz; omega
  subst hn0
  rcases Nat.eq_zero_or_pos u.n with hu0 | hup
  · rw [hu0] at hx hl
    have hr := run_append_owned_zero (P := P) (w := w) 0 t ty el i0 sz ht hi _ _ _ hown u.A u.c
    have hrun : (execOp (evD e) (opr (.call { callee := .builtin .append, args := #[s, x], argTypes := #[t, t] }) ty)).run P w = .ok (.value (.slice (some ⟨b, 0, none⟩) 0 0)) w := by
      simp [execOp, opr, resolve, invoke, builtin, evD, hs, hx, hr]
    obtain rfl : ys = [] := List.eq_nil_of_length_eq_zero (by omega);exact o_val h hd ho (by simp [covers, Op.operands, Call.operands, hs, hx, notSelect]) hrun fun a' ha => k ⟨some ⟨b, 0, none⟩, 0, 0⟩ w a' hS1 ha
  · rw [hA hup] at hx
    have hcells : ∀ j v, ys[j]? = some v → w.cell? ((⟨bk u, of_ u, none⟩ : Addr).add j) = some v := fun j v hv => by rw [add0]; exact hc j v hv
    have hm1 : u.n ≤ 1000000000 := Nat.le_trans (Nat.le_mul_of_pos_right _ hsz) (by omega)
    have hbytes : (0 + u.n) * bytes ≤ 140737488355328 := by
      have h2 : u.n * bytes ≤ u.n * (100000 * sz) := Nat.mul_le_mul_left _ hby;have h3 : u.n * (100000 * sz) = 100000 * (u.n * sz) := by rw [Nat.mul_left_comm]
      rw [Nat.zero_add]
      omega
    obtain ⟨v', w', hr, h2, h3, h4, h5⟩ := run_append_own_at (P := P) w 0 t ty el i0 z sz bytes ht hi hz0 hz1 hz2 hz hsz _ 0 [] hown ⟨bk u, of_ u, none⟩ u.n u.c ys hl hcells (fun v hv => List.all_eq_true.1 h1 v hv) (by simp only [maxLen]; omega) hbytes (Nat.zero_le _)
    have hrun : (execOp (evD e) (opr (.call { callee := .builtin .append, args := #[s, x], argTypes := #[t, t] }) ty)).run P w = .ok (.value v') w' := by
      simp [execOp, opr, resolve, invoke, builtin, evD, hs, hx, hr]
    have hS' : Sat w0 w' (Rs.set p (SX.row v' el sz ys)) := by
      have h9 := hS1.upd (i := p) (R := SX.row (.slice (some ⟨b, 0, none⟩) 0 0) el sz []) (w' := w') (by rw [List.getElem?_set_self hpl]) (SX.row v' el sz ys) h3.os h3.tape h3.output h3.size fun F hF => ⟨fun k => v'.ownBlock = some k, ⟨fun _ => Iff.rfl, _, by simpa using h2⟩, fun k hk => ?_, fun k hk hF' => h3.block k hk fun e => hF' ((hF.1 k).2 e.symm)⟩
      · rwa [List.set_set] at h9
      · rcases h5 with h5 | h5
        · exact .inl ((hF.1 k).2 (by rw [← h5]; exact hk))
        · rw [h5] at hk
          injection hk with hk
          exact .inr (by omega)
    obtain ⟨A, nn, cc, rfl, hnn⟩ : ∃ A nn cc, v' = .slice A nn cc ∧ nn = 0 + u.n := by
      rcases h2.2 with ⟨rfl, hn0⟩ | ⟨g, cap, cur, rfl, _⟩
      · exact ⟨none, 0, 0, rfl, hn0.symm⟩
      · exact ⟨_, _, cap, rfl, rfl⟩
    exact o_val h hd ho (by simp [covers, Op.operands, Call.operands, hs, hx, notSelect]) hrun fun a' ha => k ⟨A, nn, cc⟩ w' a' hS' ha
end
end SX
namespace SX
open Go.RowKit
open Go.Proofs.Ytjkoibfkklhaiaa.G Go.Proofs.YtjkoibfkklhaiaaW.PrintWords Go.Proofs.YtjkoibfkklhaiaaW.PrintLast Go.Proofs.YtjkoibfkklhaiaaW.PrintMore
theorem code130 : Try.f130.body = some (Code.seq (cr Try.f130 0 false) (Code.seq (cr Try.f130 1 false) (Code.seq (Code.seq (cr Try.f130 2 false) (Code.block 0 (Code.loop (Code.seq (Code.seq (cr Try.f130 3 false) (Code.cond (Operand.tmp 11) Code.skip (Code.exit 0))) (Code.seq (Code.block 1 (cr Try.f130 5 true)) (cr Try.f130 4 false)))))) (Code.seq (cr Try.f130 6 false) Code.ret)))) := by kernel_rfl
theorem q_own {w0 w : World} {Rs : List Asn} {P : List (List Stp)} {pv : Sl} {sbs : List Sl} (hS : Sat w0 w Rs) (hl : P.length ≤ 6) (h8 : ∀ b ∈ P, b.length ≤ 8) (hPr : Keeps w0 Rs (fun w => RdProg w pv sbs P)) :
  Calls Try.prog 130 #[.agg #[.slice pv.A pv.n pv.c]] w (Ret fun r w' => ∃ (o : Sl) (us : List (Sl × List Stp)), us.map (·.2) = P ∧ r = .agg #[.slice o.A o.n o.c] ∧ Sat w0 w' (SX.row (.slice o.A o.n o.c) 109 1 (encS (us.map (·.1))) :: jG (us.map rowT) :: Rs)) := by
 have hpn := (hPr w hS).len
 have hpA := (hPr w hS).A
 refine enter (n := 27) Try.func130 code130 (by kernel_rfl) (Nat.le_of_ble_eq_true rfl) (fun a ha => ?_)
 replace ha : Has 27 [(0, .agg #[.slice pv.A pv.n pv.c])] a := ha
 refine wp_seq (jX [0, 1] (jK (qV 1 [.slice pv.A pv.n pv.c] 35 (ptr · 0) ha hS fun b1 w a hb2 hS ha => ?_)))
 refine jK (qV 2 [.slice none 0 0] 35 (ptr · 0) ha hS fun b3 w a hb4 hS ha => ?_)
 refine jY (jJ (wp_seq (jX [0, 1, 2, 3] (jK (qV 5 [] 109 (fun b => .slice (some ⟨b, 0, none⟩) 0 0) ha hS fun b5 w a hb6 hS ha => ?_)))))
 refine jQ [(1, 6, .agg #[.slice (some ⟨b5, 0, none⟩) 0 0])] ha fun a ha => ?_
 refine jK (qV 3 [.slice none 0 0] 35 (ptr · 0) ha hS fun b7 w a hb8 hS ha => ?_)
 refine jK (o_sa 0 ha (xV (t := 35) (x := 3) (y := 6)) hS fun w a hS ha => ?_)
 refine jY (jJ (wp_seq (wp_seq (jX [0] (jQ [(0, 4, iv 0)] ha fun a ha => ?_)))))
 refine jY (jJ (wp_block ?_))
 replace hS := Sat.merge (l := []) (hS.blk0 1 1 rfl)
 replace hS := hS.pickN 5 [4, 3, 1, 2, 0]
 refine wp_loop_ghost (fun n_ a_ w_ => ∃ (i : Nat) (us : List (Sl × List Stp)) (o : Sl), n_ = P.length - i ∧ (i ≤ P.length) ∧ (us.map (·.2) = P.take i) ∧ Has 27 [(1, ptr b1 0), (2, ptr b3 0), (3, ptr b7 0), (4, iv (i : Int))] a_ ∧ Sat w0 w_ ((SX.blk b1 [.slice pv.A pv.n pv.c] 35) :: (SX.blk b3 [.slice none 0 0] 35) :: (SX.blk b7 [.slice o.A o.n o.c] 35) :: (SX.row (.slice o.A o.n o.c) 109 1 (encS (us.map (·.1)))) :: (jG (us.map rowT)) :: Rs)) _ ⟨0, [], ⟨some ⟨b5, 0, none⟩, 0, 0⟩, rfl, Nat.zero_le _, rfl, ha.keeps [1, 2, 3, 4] _ rfl, hS⟩ ?_
 rintro n_ a w ⟨i, us, o, rfl, hi, hus, ha, hS⟩
 refine wp_seq (wp_seq (jX [0, 1, 2, 3, 4] (jQ [(0, 7, iv (i : Int)), (1, 8, ptr b1 0)] ha fun a ha => ?_)))
 refine qQ (d := 9) (b := b1) (j := 0) ha (hS.blk 0 rfl) rfl fun a ha => ?_
 refine jQ [(3, 10, iv (pv.n : Int)), (4, 11, .bool (decide ((i : Int) < (pv.n : Int))))] ha fun a ha => ?_
 refine jY (jJ ?_)
 by_cases c9 : (i : Int) < (pv.n : Int)
 ·
  have hlt : i < P.length := by have := c9; omega
  obtain ⟨body, hb⟩ : ∃ b, P[i]? = some b := ⟨_, List.getElem?_eq_getElem hlt⟩
  obtain ⟨sb, hbn, hbA, hsb⟩ := RdProg.body hPr (Sat.rest [_, _, _, _, _] hS) hb
  refine jV ha rfl (decide_eq_true c9) ?_
  refine wp_skip (jJ (wp_seq (wp_block (xQ 12 13 (hS.pickN 5 [0, 1, 2]) hS fun w hS => ?_))))
  refine jZ (k := 12) [(0, 14, ptr b7 0)] ha (.inr (hS.pickN 5 [0, 1, 2])) fun a ha => ?_
  refine qW 1 (d := 15) (b := b7) (j := 0) ha (hS.pickN 5 [0, 1, 2]) (fun _ hw => hw.blk 2 rfl) rfl fun a ha => ?_
  refine jZ (k := 10) [(3, 17, ptr b1 0)] ha (.inr (hS.pickN 5 [0, 1, 2])) fun a ha => ?_
  refine qW 4 (d := 18) (b := b1) (j := 0) ha (hS.pickN 5 [0, 1, 2]) (fun _ hw => hw.blk 0 rfl) rfl fun a ha => ?_
  refine jZ (k := 8) [(5, 19, iv (i : Int))] ha (.inr (hS.pickN 5 [0, 1, 2])) fun a ha => ?_
  refine yY 6 (.pointer (some ⟨bk pv, of_ pv + i * 1, none⟩)) ha (kQ (s := pv) (el := 109) (sz := 1) (j := i) ha (yH (t := 33) (x := 18) (y := 19) (d := 20)) rfl rfl (by kernel_rfl) (by kernel_rfl) (hpA (by omega)) (by omega)) (.inr (hS.pickN 5 [0, 1, 2])) fun a ha => ?_
  refine zW 7 (.slice sb.A sb.n sb.c) ha (zU ha (zV (t := 109) (x := 20) (d := 21) (ty := 109)) rfl (by kernel_rfl) (fun w' hw => by rw [Nat.mul_one]; exact ((hsb.more [_, _, _]) _ hw).1)) (hS.pickN 5 [0, 1, 2]) fun a ha => ?_
  refine jU 2 (qV 16 [] 176 (fun b => .slice (some ⟨b, 0, none⟩) 0 0) ha hS fun b10 w a hb11 hS ha => ?_)
  refine ⟨.inr (hS.pickN 6 [1, 2, 3]), ?_⟩
  refine jU 8 (o_appRd0 (u := sb) (z := .agg #[iv 0, iv 0, iv 0]) (sz := 3) (bytes := 24) (ys := encT3 body) 0 ha (by decide) (yU (op := (Op.call { callee := (Callee.builtin Builtin.append), args := #[(Operand.tmp 16), (Operand.tmp 21)], argTypes := #[109, 109] })) (d := some 22) (ty := 109)) rfl rfl (by kernel_rfl) (by kernel_rfl) rfl (by decide) hS rfl (by rw [encT3_length, hbn]) (fun h => hbA (by omega)) ((hsb.more [_, _, _, _, _, _]) _ hS).2.cells (encT3_one _) (by rw [encT3_length]; have := h8 body (List.mem_of_getElem? hb); omega) (by decide) fun s12 w a hS ha => ?_)
  refine ⟨.inr (hS.pickN 6 [1, 2, 3]), ?_⟩
  refine jU 9 (qV 23 [.slice s12.A s12.n s12.c] 109 (fun b => .slice (some ⟨b, 0, none⟩) 1 1) ha hS fun b13 w a hb14 hS ha => ?_)
  refine ⟨.inr (hS.pickN 7 [2, 3, 4]), ?_⟩
  refine jU 10 (o_ap 24 5 0 (encS ((us.map (·.1)) ++ [s12])) ha hS rfl rfl (by rw [encS_length, List.length_map]; have h9 := congrArg List.length hus; rw [List.length_map, List.length_take] at h9; simp only [List.length_cons, List.length_nil]; omega) (encS_snoc _ _) fun s18 w a hS hn19 ha => ?_)
  refine ⟨.inr (hS.pickN 7 [2, 3, 4]), ?_⟩
  refine jZ (k := 1) [(11, 25, ptr b7 0)] ha (.inr (hS.pickN 7 [2, 3, 4])) fun a ha => ?_
  refine jU 12 (xU b7 0 (.slice s18.A s18.n s18.c) 4 ha hS rfl rfl fun w a hS ha => ?_)
  refine xX (qU (in_n (jJ (jX [0, 1, 2] (jQ [(0, 12, iv (i : Int))] ha fun a ha => ?_)))))
  refine zZ 13 ((i : Int) + 1) ha fun a ha => ?_
  refine jQ [(2, 4, iv ((i : Int) + 1))] ha fun a ha => ?_
  refine jY (jJ ?_)
  replace hS := hS.pickN 7 [1, 6, 2, 3, 4, 5]
  replace hS : Sat w0 w ((jG ((us ++ [(s12, body)]).map rowT)) :: (SX.blk b1 [.slice pv.A pv.n pv.c] 35) :: (SX.blk b3 [.slice none 0 0] 35) :: (SX.blk b7 [.slice s18.A s18.n s18.c] 35) :: (SX.row (.slice s18.A s18.n s18.c) 109 1 (encS ((us.map (·.1)) ++ [s12]))) :: Rs) := by have hh := Sat.gainLast (R := rowT (s12, body)) hS; rw [List.map_append]; exact hh
  replace hS : Sat w0 w ((jG ((us ++ [(s12, body)]).map rowT)) :: (SX.blk b1 [.slice pv.A pv.n pv.c] 35) :: (SX.blk b3 [.slice none 0 0] 35) :: (SX.blk b7 [.slice s18.A s18.n s18.c] 35) :: (SX.row (.slice s18.A s18.n s18.c) 109 1 (encS ((us ++ [(s12, body)]).map (·.1)))) :: Rs) := by rw [show (us ++ [(s12, body)]).map (·.1) = us.map (·.1) ++ [s12] by rw [List.map_append]; rfl]; exact hS
  replace hS := hS.pickN 5 [1, 2, 3, 4, 0]
  exact ⟨_, by omega, i + 1, us ++ [(s12, body)], s18, rfl, by omega, by rw [List.map_append, hus, List.take_add_one, hb]; rfl, ha.keeps [1, 2, 3, 4] _ rfl, hS⟩
 refine jW ha rfl (decide_eq_false c9) ?_
 refine wp_exit (xW (xW (in_x (jJ (wp_seq (jX [0, 1] (zY 26 ha (hS.blk 2 rfl) fun a ha => ?_)))))))
 refine jK (o_sa 1 ha (xV (t := 35) (x := 2) (y := 26)) hS fun w a hS ha => ?_)
 refine jY (jJ (wp_ret (qG ha (by kernel_rfl) (yQ (t := 2) (ty := 35) (i := 1) ha rfl hS rfl (by kernel_rfl)) ?_)))
 replace hS := hS.pickN 5 [3, 4]
 have hie : i = P.length := by have := c9; omega
 exact ⟨o, us, by rw [hus, hie, List.take_length], rfl, hS⟩
theorem code103 : Try.f103.body = some (Code.seq (cr Try.f103 0 false) (Code.seq (cr Try.f103 1 false) (Code.seq (cr Try.f103 2 false) Code.ret))) := by kernel_rfl
theorem q_whole {w0 w : World} {Rs : List Asn} {P : List (List Stp)} (hP : ProgOk P) {pv : Sl} {sbs : List Sl} {f arg fuel : Int} (hS : Sat w0 w Rs) (hf0 : 0 ≤ f) (hf1 : f < P.length) (harg : -32768 ≤ arg ∧ arg ≤ 32767) (hfu : 0 ≤ fuel ∧ fuel ≤ 200) (hPr : Keeps w0 Rs (fun w => RdProg w pv sbs P)) :
  Calls Try.prog 103 #[.agg #[.slice pv.A pv.n pv.c], .int .i64 f, .int .i64 arg, .int .i64 fuel] w (Ret fun r w' => ∃ (q : MQ × FQ) (o tr se df : Sl), q = qRun P 0 f arg fuel ∧ r = .tuple #[mV o fuel q.1 tr se, cV q.2 df] ∧ Sat w0 w' (rE tr q.1.trace :: rS se q.1.seen :: Rs)) := by
 have hsh : -32768 ≤ (0 : Int) ∧ (0 : Int) ≤ 32767 := by decide
 refine enter (n := 24) Try.func103 code103 (by kernel_rfl) (Nat.le_of_ble_eq_true rfl) (fun a ha => ?_)
 replace ha : Has 24 [(0, .agg #[.slice pv.A pv.n pv.c]), (1, iv f), (2, iv arg), (3, iv fuel)] a := ha
 refine wp_seq (jX [0, 1, 2] (jK (qV 4 [.slice pv.A pv.n pv.c] 35 (ptr · 0) ha hS fun b1 w a hb2 hS ha => ?_)))
 refine jK (qV 8 (mL (⟨none, 0, 0⟩) 0 false 0 0 0 (⟨none, 0, 0⟩) (⟨none, 0, 0⟩)) 148 (ptr · 0) ha hS fun b3 w a hb4 hS ha => ?_)
 refine jK (qV 9 (cL 0 0 0 0 0 0 (⟨none, 0, 0⟩) 0 0 false false false 0 false 0) 151 (ptr · 0) ha hS fun b5 w a hb6 hS ha => ?_)
 refine jY (jJ (wp_seq (jX [0, 1, 2, 3, 4, 5, 6] (zY 11 ha (hS.blk 2 rfl) fun a ha => ?_))))
 refine jK (xJ 12 (vs := [.agg #[.slice pv.A pv.n pv.c]]) ha (q_own hS hP.few hP.short (hPr.more [_, _, _])) fun v7 w a hp8 ha => ?_)
 obtain ⟨o, us, hus, rfl, hS⟩ := hp8
 refine jQ [(2, 13, iv fuel)] ha fun a ha => ?_
 refine jK (qV 14 [] 201 (fun b => .slice (some ⟨b, 0, none⟩) 0 0) ha hS fun b9 w a hb10 hS ha => ?_)
 refine jQ [(4, 15, .agg #[.slice o.A o.n o.c, iv fuel, .bool false, iv 0, iv 0, iv 0, .slice (some ⟨b9, 0, none⟩) 0 0, .slice none 0 0])] ha fun a ha => ?_
 refine jK (qV 10 (mL (⟨none, 0, 0⟩) 0 false 0 0 0 (⟨none, 0, 0⟩) (⟨none, 0, 0⟩)) 148 (ptr · 0) ha hS fun b11 w a hb12 hS ha => ?_)
 refine jK (o_sa 0 ha (xV (t := 148) (x := 10) (y := 15)) hS fun w a hS ha => ?_)
 refine jY (jJ (wp_seq (jX [0, 1, 2, 3, 4, 5, 6, 7, 8, 9] (zY 16 ha (hS.blk 0 rfl) fun a ha => ?_))))
 refine jQ [(1, 17, iv f), (2, 18, iv arg), (3, 19, .agg #[iv arg, iv 0, iv 0, iv 0]), (4, 20, (cG f 1 arg 0 0 0 (⟨none, 0, 0⟩) 0 0 false false false 0 false 0))] ha fun a ha => ?_
 refine jK (xJ 21 (vs := [.agg #[.slice o.A o.n o.c, iv fuel, .bool false, iv 0, iv 0, iv 0, .slice (some ⟨b9, 0, none⟩) 0 0, .slice none 0 0], (cG f 1 arg 0 0 0 (⟨none, 0, 0⟩) 0 0 false false false 0 false 0)]) ha (q_calls hP fuel o (us.map (·.1)) 8 w0 _ _ (qStart 0) (FQ.new f 1 arg) (⟨some ⟨b9, 0, none⟩, 0, 0⟩ : Sl) (⟨none, 0, 0⟩ : Sl) (⟨none, 0, 0⟩ : Sl) 10 ((Sat.nilRow (T := 96) (sz := 2) (Sat.nilRow (T := 96) (sz := 2) (hS.blk0 3 1 rfl))).pickN 9 [3, 0, 1, 4, 5, 2, 6, 7, 8]) (qStart_ok hsh hfu) (OkC.new hf0 hf1 ⟨harg.1, harg.2⟩) rfl rfl (Int.le_refl 1) (fun w hS => own_reads hus hS)) fun v13 w a hp14 ha => ?_)
 obtain ⟨q, tr, se, df, hq, rfl, hS⟩ := hp14
 refine jQ [(6, 22, (mG o fuel q.1.spent q.1.shared q.1.made q.1.deep tr se)), (7, 23, (cG q.2.f q.2.depth q.2.r0 q.2.r1 q.2.r2 q.2.r3 df q.2.kind q.2.value q.2.leaving q.2.deferred q.2.panicking q.2.panic q.2.recovered q.2.outer))] ha fun a ha => ?_
 refine jK (o_sa 7 ha (xV (t := 148) (x := 8) (y := 22)) hS fun w a hS ha => ?_)
 refine jK (o_sa 6 ha (xV (t := 151) (x := 9) (y := 23)) hS fun w a hS ha => ?_)
 refine jY (jJ (wp_ret (yV ha (by kernel_rfl) (yQ (t := 8) (ty := 148) (i := 7) ha rfl hS rfl (by kernel_rfl)) (yQ (t := 9) (ty := 151) (i := 6) ha rfl hS rfl (by kernel_rfl)) ?_)))
 replace hS := hS.pickN 9 [0, 1]
 exact ⟨q, o, tr, se, df, hq, rfl, hS⟩
end SX
end Go.Proofs.Ytjkoibfkklhaiaa
namespace Go.Proofs.Ytjkoibfkklhaiaa.G
open Go.RowKit Go.Proofs.Ytjkoibfkklhaiaa.SX Go.Proofs.YtjkoibfkklhaiaaW.PrintWords Go.Proofs.YtjkoibfkklhaiaaW.PrintLast Go.Proofs.YtjkoibfkklhaiaaW.PrintMore
theorem apart_if2 (p : Prop) [Decidable p] (b : Bool) : (if p then some b else some false) = some (decide p && b) := by by_cases h : p <;> simp [h]
theorem q_in {w0 w : World} {Rs : List Asn} (hS : Sat w0 w Rs) (x lo hi : Int) : Calls Try.prog 87 #[.int .i64 x, .int .i64 lo, .int .i64 hi] w (Ret fun r w' => r = .bool (decide (lo ≤ x) && decide (x ≤ hi)) ∧ Sat w0 w' Rs) := by
 refine (spec_l1In.calls x lo hi (decide (lo ≤ x) && decide (x ≤ hi)) w (by unfold spec_l1In.f; by_cases h : lo ≤ x <;> simp [h])).mono ?_
 rintro e w' ⟨rfl, hd⟩
 obtain ⟨q, rfl⟩ := hd.out
 exact ⟨rfl, hS.grows ⟨rfl, rfl, rfl, Nat.le_refl _, fun _ _ => rfl⟩⟩
theorem q_reg {w0 w : World} {Rs : List Asn} (hS : Sat w0 w Rs) (x : Int) : Calls Try.prog 136 #[.int .i64 x] w (Ret fun r w' => r = .bool (regB x) ∧ Sat w0 w' Rs) := by
 refine (spec_l2Reg.calls x (regB x) w (by unfold spec_l2Reg.f spec_l1In.f; simp [regB, apart_if2])).mono ?_
 rintro e w' ⟨rfl, hd⟩
 obtain ⟨q, rfl⟩ := hd.out
 exact ⟨rfl, hS.grows ⟨rfl, rfl, rfl, Nat.le_refl _, fun _ _ => rfl⟩⟩
theorem q_num {w0 w : World} {Rs : List Asn} (hS : Sat w0 w Rs) (x : Int) : Calls Try.prog 102 #[.int .i64 x] w (Ret fun r w' => r = .bool (numB x) ∧ Sat w0 w' Rs) := by
 refine (spec_l2Number.calls x (numB x) w (by unfold spec_l2Number.f spec_l1In.f; simp [numB, apart_if2])).mono ?_
 rintro e w' ⟨rfl, hd⟩
 obtain ⟨q, rfl⟩ := hd.out
 exact ⟨rfl, hS.grows ⟨rfl, rfl, rfl, Nat.le_refl _, fun _ _ => rfl⟩⟩
theorem code101 : Try.f101.body = some (Code.seq (cr Try.f101 0 false) (Code.seq (cr Try.f101 1 false) Code.ret)) := by kernel_rfl
theorem q_fun {w0 w : World} {Rs : List Asn} {pv : Sl} (hS : Sat w0 w Rs) (x : Int) (hn : pv.n ≤ 2000000) : Calls Try.prog 101 #[.agg #[.slice pv.A pv.n pv.c], .int .i64 x] w (Ret fun r w' => r = .bool (decide ((0 : Int) ≤ x) && decide (x ≤ (pv.n : Int) - 1)) ∧ Sat w0 w' Rs) := by
 refine enter (n := 11) Try.func101 code101 (by kernel_rfl) (Nat.le_of_ble_eq_true rfl) (fun a ha => ?_)
 replace ha : Has 11 [(0, .agg #[.slice pv.A pv.n pv.c]), (1, iv x)] a := ha
 refine wp_seq (jX [0, 1] (jK (qV 2 [.slice pv.A pv.n pv.c] 35 (ptr · 0) ha hS fun b1 w a hb2 hS ha => ?_)))
 refine jQ [(1, 4, .bool false)] ha fun a ha => ?_
 refine jY (jJ (wp_seq (jX [0, 1, 2, 3, 4, 5, 6] (jQ [(0, 5, iv x), (1, 6, ptr b1 0)] ha fun a ha => ?_))))
 refine qQ (d := 7) (b := b1) (j := 0) ha (hS.blk 0 rfl) rfl fun a ha => ?_
 refine jQ [(3, 8, iv (pv.n : Int))] ha fun a ha => ?_
 refine zZ 9 ((pv.n : Int) - 1) ha fun a ha => ?_
 refine jK (xJ 10 (vs := [iv x, iv 0, iv ((pv.n : Int) - 1)]) ha (q_in hS _ _ _) fun v3 w a hp4 ha => ?_)
 obtain ⟨rfl, hS⟩ := hp4
 refine jQ [(6, 4, .bool (decide ((0 : Int) ≤ x) && decide (x ≤ ((pv.n : Int) - 1))))] ha fun a ha => ?_
 refine jY (jJ (wp_ret (qG ha (by kernel_rfl) (xG (t := 4) ha rfl) ?_)))
 exact ⟨rfl, Sat.rest [_] hS⟩
def okB (n : Nat) (b : List Stp) : Bool := decide (b.length ≤ 8) && b.all fun s => stepB (n : Int) s.k s.a s.b
def progQ (P : List (List Stp)) : Bool := (decide ((1 : Int) ≤ (P.length : Int)) && decide ((P.length : Int) ≤ 6)) && P.all (okB P.length)
theorem progQ_len {P : List (List Stp)} (h : (decide ((1 : Int) ≤ (P.length : Int)) && decide ((P.length : Int) ≤ 6)) = false) : progQ P = false := by unfold progQ; rw [h]; rfl
theorem progQ_no {P : List (List Stp)} {b : List Stp} (hb : b ∈ P) (h : okB P.length b = false) : progQ P = false := by
 refine Bool.eq_false_iff.2 fun h2 => ?_
 have h3 := List.all_eq_true.1 (Bool.and_eq_true_iff.1 h2).2 b hb
 rw [h] at h3
 cases h3
theorem progQ_yes {P : List (List Stp)} (h : (decide ((1 : Int) ≤ (P.length : Int)) && decide ((P.length : Int) ≤ 6)) = true) (h2 : ∀ b ∈ P, okB P.length b = true) : progQ P = true := by unfold progQ; rw [h, Bool.true_and]; exact List.all_eq_true.2 h2
theorem okB_len {n : Nat} {b : List Stp} (h : 8 < b.length) : okB n b = false := by unfold okB; rw [decide_eq_false (by omega)]; rfl
theorem okB_step {n : Nat} {b : List Stp} {z : Stp} (hz : z ∈ b) (h : stepB (n : Int) z.k z.a z.b = false) : okB n b = false := by
 refine Bool.eq_false_iff.2 fun h2 => ?_
 have h3 := List.all_eq_true.1 (Bool.and_eq_true_iff.1 h2).2 z hz
 rw [h] at h3
 cases h3
theorem okB_yes {n : Nat} {b : List Stp} (h : b.length ≤ 8) (h2 : ∀ s ∈ b, stepB (n : Int) s.k s.a s.b = true) : okB n b = true := by unfold okB; rw [decide_eq_true h, Bool.true_and]; exact List.all_eq_true.2 h2
theorem take_all {α : Type} {l : List α} {i : Nat} {x : α} {p : α → Prop} (h : ∀ y ∈ l.take i, p y) (hx : l[i]? = some x) (hp : p x) : ∀ y ∈ l.take (i + 1), p y := by
 intro y hy
 rw [List.take_add_one, hx] at hy
 rcases List.mem_append.1 hy with hy | hy
 · exact h y hy
 · rw [List.mem_singleton.1 hy]; exact hp
theorem progQ_PL (l : List (List GS)) : progQ (PL l) = programB l := by
  unfold progQ programB
  rw [PL_length]
  congr 1
  · congr 1 <;> exact decide_eq_decide.2 (by omega)
  · unfold PL
    rw [List.all_map];refine congrArg (List.all l) (funext fun b => ?_);simp only [Function.comp, okB, bodyB, List.length_map, List.all_map]
    rfl
theorem code112 : Try.f112.body = some (Code.seq (cr Try.f112 0 false) (Code.seq (Code.seq (cr Try.f112 1 false) (Code.block 0 (Code.seq (cr Try.f112 2 false) (Code.cond (Operand.tmp 7) (Code.seq (cr Try.f112 3 false) Code.ret) (Code.seq (cr Try.f112 4 false) (Code.cond (Operand.tmp 17) (Code.seq (cr Try.f112 5 false) Code.ret) (Code.seq (Code.seq (cr Try.f112 6 false) (Code.cond (Operand.tmp 27) Code.skip (cr Try.f112 7 false))) (Code.cond (Operand.tmp 27) (Code.seq (cr Try.f112 8 false) Code.ret) (Code.seq (Code.seq (cr Try.f112 9 false) (Code.cond (Operand.tmp 39) Code.skip (Code.seq (cr Try.f112 10 false) (Code.cond (Operand.tmp 39) Code.skip (Code.seq (cr Try.f112 11 false) (Code.cond (Operand.tmp 39) Code.skip (Code.seq (cr Try.f112 12 false) (Code.cond (Operand.tmp 39) Code.skip (Code.seq (cr Try.f112 13 false) (Code.cond (Operand.tmp 39) Code.skip (Code.seq (cr Try.f112 14 false) (Code.cond (Operand.tmp 39) Code.skip (cr Try.f112 15 false))))))))))))) (Code.cond (Operand.tmp 39) (Code.seq (cr Try.f112 16 false) Code.ret) (Code.seq (cr Try.f112 17 false) (Code.cond (Operand.tmp 55) (Code.seq (cr Try.f112 18 false) Code.ret) (Code.seq (cr Try.f112 19 false) (Code.cond (Operand.tmp 65) (Code.seq (cr Try.f112 20 false) Code.ret) Code.skip)))))))))))))) (Code.seq (cr Try.f112 21 false) Code.ret))) := by kernel_rfl
theorem q_step {w0 w : World} {Rs : List Asn} {pv : Sl} {k xa xb : Int} (hS : Sat w0 w Rs) (hn : pv.n ≤ 2000000) :
  Calls Try.prog 112 #[.agg #[.slice pv.A pv.n pv.c], .agg #[.int .i64 k, .int .i64 xa, .int .i64 xb]] w (Ret fun r w' => r = .bool (stepB (pv.n : Int) k xa xb) ∧ Sat w0 w' Rs) := by
 refine enter (n := 75) Try.func112 code112 (by kernel_rfl) (Nat.le_of_ble_eq_true rfl) (fun a ha => ?_)
 replace ha : Has 75 [(0, .agg #[.slice pv.A pv.n pv.c]), (1, .agg #[iv k, iv xa, iv xb])] a := ha
 refine wp_seq (jX [0, 1, 2] (jK (qV 2 [.slice pv.A pv.n pv.c] 35 (ptr · 0) ha hS fun b1 w a hb2 hS ha => ?_)))
 refine jK (qV 3 [iv k, iv xa, iv xb] 176 (ptr · 0) ha hS fun b3 w a hb4 hS ha => ?_)
 refine jQ [(2, 4, .bool false)] ha fun a ha => ?_
 refine jY (jJ (wp_seq (wp_seq (jX [0, 1] (jQ [(0, 5, ptr b3 0)] ha fun a ha => ?_)))))
 refine qQ (d := 6) (b := b3) (j := 0) ha (hS.blk 0 rfl) rfl fun a ha => ?_
 refine jY (jJ (wp_block (wp_seq (jX [0, 1] (jQ [(0, 8, .bool (decide (k = 1))), (1, 7, .bool (decide (k = 1)))] ha fun a ha => ?_)))))
 refine jY (jJ ?_)
 by_cases c5 : k = 1
 ·
  refine jV ha rfl (decide_eq_true c5) ?_
  refine wp_seq (jX [0, 1, 2, 3, 4, 5, 6, 7, 8] (jQ [(0, 9, ptr b3 1)] ha fun a ha => ?_))
  refine qQ (d := 10) (b := b3) (j := 1) ha (hS.blk 0 rfl) rfl fun a ha => ?_
  refine jK (xJ 11 (vs := [iv xa]) ha (q_reg hS _) fun v6 w a hp7 ha => ?_)
  obtain ⟨rfl, hS⟩ := hp7
  refine jQ [(3, 12, .bool (regB xa))] ha fun a ha => ?_
  rcases Bool.eq_false_or_eq_true (regB xa) with c8 | c8
  ·
   replace ha := ha.turn 11 (.bool true) rfl (congrArg Value.bool c8);replace ha := ha.turn 12 (.bool true) rfl (congrArg Value.bool c8);refine jQ [(4, 13, ptr b3 2)] ha fun a ha => ?_;refine qQ (d := 14) (b := b3) (j := 2) ha (hS.blk 0 rfl) rfl fun a ha => ?_;refine jK (xJ 15 (vs := [iv xb]) ha (q_num hS _) fun v9 w a hp10 ha => ?_);obtain ⟨rfl, hS⟩ := hp10;refine jQ [(7, 16, .bool (numB xb)), (8, 4, .bool (numB xb))] ha fun a ha => ?_;refine jY ?_;replace ha := ha.as [(4, .bool (numB xb))] rfl;refine jJ (wp_ret (in_r (qH (qG ha (by kernel_rfl) (xG (t := 4) ha rfl) ?_))));have hE : stepB (pv.n : Int) k xa xb = (numB xb) := by first | (simp [stepB, c5, c8]; done) | (simp only [stepB, show (decide (1 ≤ k) && decide (k ≤ 13)) = false by (simp; omega), Bool.false_and])
   rw [hE];exact ⟨rfl, Sat.rest [_, _] hS⟩
  replace ha := ha.turn 11 (.bool false) rfl (congrArg Value.bool c8)
  replace ha := ha.turn 12 (.bool false) rfl (congrArg Value.bool c8)
  refine jQ [(4, 13, undef), (5, 14, undef), (6, 15, undef), (7, 16, .bool false), (8, 4, .bool false)] ha fun a ha => ?_
  refine jY ?_
  replace ha := ha.as [(4, .bool false)] rfl
  refine jJ (wp_ret (in_r (qH (qG ha (by kernel_rfl) (xG (t := 4) ha rfl) ?_))))
  have hE : stepB (pv.n : Int) k xa xb = false := by first | (simp [stepB, c5, c8]; done) | (simp only [stepB, show (decide (1 ≤ k) && decide (k ≤ 13)) = false by (simp; omega), Bool.false_and])
  rw [hE]
  exact ⟨rfl, Sat.rest [_, _] hS⟩
 refine jW ha rfl (decide_eq_false c5) ?_
 refine wp_seq (jX [0, 1] (jQ [(0, 18, .bool (decide (k = 2))), (1, 17, .bool (decide (k = 2)))] ha fun a ha => ?_))
 refine jY (jJ ?_)
 by_cases c11 : k = 2
 ·
  refine jV ha rfl (decide_eq_true c11) ?_
  refine wp_seq (jX [0, 1, 2, 3, 4, 5, 6, 7, 8] (jQ [(0, 19, ptr b3 1)] ha fun a ha => ?_))
  refine qQ (d := 20) (b := b3) (j := 1) ha (hS.blk 0 rfl) rfl fun a ha => ?_
  refine jK (xJ 21 (vs := [iv xa]) ha (q_reg hS _) fun v12 w a hp13 ha => ?_)
  obtain ⟨rfl, hS⟩ := hp13
  refine jQ [(3, 22, .bool (regB xa))] ha fun a ha => ?_
  rcases Bool.eq_false_or_eq_true (regB xa) with c14 | c14
  ·
   replace ha := ha.turn 21 (.bool true) rfl (congrArg Value.bool c14);replace ha := ha.turn 22 (.bool true) rfl (congrArg Value.bool c14);refine jQ [(4, 23, ptr b3 2)] ha fun a ha => ?_;refine qQ (d := 24) (b := b3) (j := 2) ha (hS.blk 0 rfl) rfl fun a ha => ?_;refine jK (xJ 25 (vs := [iv xb]) ha (q_reg hS _) fun v15 w a hp16 ha => ?_);obtain ⟨rfl, hS⟩ := hp16;refine jQ [(7, 26, .bool (regB xb)), (8, 4, .bool (regB xb))] ha fun a ha => ?_;refine jY ?_;replace ha := ha.as [(4, .bool (regB xb))] rfl;refine jJ (wp_ret (in_r (qH (qG ha (by kernel_rfl) (xG (t := 4) ha rfl) ?_))));have hE : stepB (pv.n : Int) k xa xb = (regB xb) := by first | (simp [stepB, c5, c11, c14]; done) | (simp only [stepB, show (decide (1 ≤ k) && decide (k ≤ 13)) = false by (simp; omega), Bool.false_and])
   rw [hE];exact ⟨rfl, Sat.rest [_, _] hS⟩
  replace ha := ha.turn 21 (.bool false) rfl (congrArg Value.bool c14)
  replace ha := ha.turn 22 (.bool false) rfl (congrArg Value.bool c14)
  refine jQ [(4, 23, undef), (5, 24, undef), (6, 25, undef), (7, 26, .bool false), (8, 4, .bool false)] ha fun a ha => ?_
  refine jY ?_
  replace ha := ha.as [(4, .bool false)] rfl
  refine jJ (wp_ret (in_r (qH (qG ha (by kernel_rfl) (xG (t := 4) ha rfl) ?_))))
  have hE : stepB (pv.n : Int) k xa xb = false := by first | (simp [stepB, c5, c11, c14]; done) | (simp only [stepB, show (decide (1 ≤ k) && decide (k ≤ 13)) = false by (simp; omega), Bool.false_and])
  rw [hE]
  exact ⟨rfl, Sat.rest [_, _] hS⟩
 refine jW ha rfl (decide_eq_false c11) ?_
 refine wp_seq (wp_seq (jX [0, 1] (jQ [(0, 28, .bool (decide (k = 4))), (1, 27, .bool (decide (k = 4)))] ha fun a ha => ?_)))
 refine jY (jJ (kZ (J := fun a_ w_ => Has 75 [(2, ptr b1 0), (3, ptr b3 0), (4, .bool false), (6, iv k), (27, .bool (decide (k = 4 ∨ k = 5)))] a_ ∧ Sat w0 w_ ((SX.blk b3 [iv k, iv xa, iv xb] 176) :: (SX.blk b1 [.slice pv.A pv.n pv.c] 35) :: Rs)) ?_ ?_))
 ·
  by_cases c17 : k = 4
  ·
   refine jV ha rfl (decide_eq_true c17) ?_;refine wp_skip ?_;have e18 : (decide (k = 4 ∨ k = 5)) = (decide (k = 4)) := by simp [c5, c11, c17]
   refine jJ ⟨?_, ?_⟩
   · first | (rw [e18]; exact ha.keeps [2, 3, 4, 6, 27] _ rfl) | exact ha.keeps [2, 3, 4, 6, 27] _ rfl
   · first | (rw [e18]; exact hS) | exact hS
  refine jW ha rfl (decide_eq_false c17) ?_
  refine jX [0, 1] (jQ [(0, 29, .bool (decide (k = 5))), (1, 27, .bool (decide (k = 5)))] ha fun a ha => ?_)
  refine jY ?_
  have e19 : (decide (k = 4 ∨ k = 5)) = (decide (k = 5)) := by simp [c5, c11, c17]
  refine jJ ⟨?_, ?_⟩
  · first | (rw [e19]; exact ha.keeps [2, 3, 4, 6, 27] _ rfl) | exact ha.keeps [2, 3, 4, 6, 27] _ rfl
  · first | (rw [e19]; exact hS) | exact hS
 rintro a w ⟨ha, hS⟩
 by_cases c20 : k = 4 ∨ k = 5
 ·
  refine jV ha rfl (decide_eq_true c20) ?_
  refine wp_seq (jX [0, 1, 2, 3, 4, 5, 6, 7, 8, 9] (zY 30 ha (hS.blk 1 rfl) fun a ha => ?_))
  refine jQ [(1, 31, ptr b3 1)] ha fun a ha => ?_
  refine qQ (d := 32) (b := b3) (j := 1) ha (hS.blk 0 rfl) rfl fun a ha => ?_
  refine jK (xJ 33 (vs := [.agg #[.slice pv.A pv.n pv.c], iv xa]) ha (q_fun hS _ (by omega)) fun v21 w a hp22 ha => ?_)
  obtain ⟨rfl, hS⟩ := hp22
  refine jQ [(4, 34, .bool (decide ((0 : Int) ≤ xa) && decide (xa ≤ (pv.n : Int) - 1)))] ha fun a ha => ?_
  rcases Bool.eq_false_or_eq_true (decide ((0 : Int) ≤ xa) && decide (xa ≤ (pv.n : Int) - 1)) with c23 | c23
  ·
   replace ha := ha.turn 33 (.bool true) rfl (congrArg Value.bool c23);replace ha := ha.turn 34 (.bool true) rfl (congrArg Value.bool c23);refine jQ [(5, 35, ptr b3 2)] ha fun a ha => ?_;refine qQ (d := 36) (b := b3) (j := 2) ha (hS.blk 0 rfl) rfl fun a ha => ?_;refine jK (xJ 37 (vs := [iv xb]) ha (q_reg hS _) fun v24 w a hp25 ha => ?_);obtain ⟨rfl, hS⟩ := hp25;refine jQ [(8, 38, .bool (regB xb)), (9, 4, .bool (regB xb))] ha fun a ha => ?_;refine jY ?_;replace ha := ha.as [(4, .bool (regB xb))] rfl;refine jJ (wp_ret (in_r (qH (qG ha (by kernel_rfl) (xG (t := 4) ha rfl) ?_))));have hE : stepB (pv.n : Int) k xa xb = (regB xb) := by rcases c20 with h | h <;> simp [stepB, h, c23]
   rw [hE];exact ⟨rfl, Sat.rest [_, _] hS⟩
  replace ha := ha.turn 33 (.bool false) rfl (congrArg Value.bool c23)
  replace ha := ha.turn 34 (.bool false) rfl (congrArg Value.bool c23)
  refine jQ [(5, 35, undef), (6, 36, undef), (7, 37, undef), (8, 38, .bool false), (9, 4, .bool false)] ha fun a ha => ?_
  refine jY ?_
  replace ha := ha.as [(4, .bool false)] rfl
  refine jJ (wp_ret (in_r (qH (qG ha (by kernel_rfl) (xG (t := 4) ha rfl) ?_))))
  have hE : stepB (pv.n : Int) k xa xb = false := by rcases c20 with h | h <;> simp [stepB, h, c23]
  rw [hE]
  exact ⟨rfl, Sat.rest [_, _] hS⟩
 refine jW ha rfl (decide_eq_false c20) ?_
 refine wp_seq (wp_seq (jX [0, 1] (jQ [(0, 40, .bool (decide (k = 3))), (1, 39, .bool (decide (k = 3)))] ha fun a ha => ?_)))
 refine jY (jJ (kZ (J := fun a_ w_ => Has 75 [(3, ptr b3 0), (4, .bool false), (6, iv k), (39, .bool (decide (k = 3 ∨ k = 6 ∨ k = 7 ∨ k = 8 ∨ k = 9 ∨ k = 12 ∨ k = 13)))] a_ ∧ Sat w0 w_ ((SX.blk b3 [iv k, iv xa, iv xb] 176) :: (SX.blk b1 [.slice pv.A pv.n pv.c] 35) :: Rs)) ?_ ?_))
 ·
  by_cases c26 : k = 3
  ·
   refine jV ha rfl (decide_eq_true c26) ?_;refine wp_skip ?_;have e27 : (decide (k = 3 ∨ k = 6 ∨ k = 7 ∨ k = 8 ∨ k = 9 ∨ k = 12 ∨ k = 13)) = (decide (k = 3)) := by simp [c5, c11, c20, c26]
   refine jJ ⟨?_, ?_⟩
   · first | (rw [e27]; exact ha.keeps [3, 4, 6, 39] _ rfl) | exact ha.keeps [3, 4, 6, 39] _ rfl
   · first | (rw [e27]; exact hS) | exact hS
  refine jW ha rfl (decide_eq_false c26) ?_
  refine wp_seq (jX [0, 1] (jQ [(0, 41, .bool (decide (k = 6))), (1, 39, .bool (decide (k = 6)))] ha fun a ha => ?_))
  refine jY (jJ ?_)
  by_cases c28 : k = 6
  ·
   refine jV ha rfl (decide_eq_true c28) ?_;refine wp_skip ?_;have e29 : (decide (k = 3 ∨ k = 6 ∨ k = 7 ∨ k = 8 ∨ k = 9 ∨ k = 12 ∨ k = 13)) = (decide (k = 6)) := by simp [c5, c11, c20, c26, c28]
   refine jJ ⟨?_, ?_⟩
   · first | (rw [e29]; exact ha.keeps [3, 4, 6, 39] _ rfl) | exact ha.keeps [3, 4, 6, 39] _ rfl
   · first | (rw [e29]; exact hS) | exact hS
  refine jW ha rfl (decide_eq_false c28) ?_
  refine wp_seq (jX [0, 1] (jQ [(0, 42, .bool (decide (k = 7))), (1, 39, .bool (decide (k = 7)))] ha fun a ha => ?_))
  refine jY (jJ ?_)
  by_cases c30 : k = 7
  ·
   refine jV ha rfl (decide_eq_true c30) ?_;refine wp_skip ?_;have e31 : (decide (k = 3 ∨ k = 6 ∨ k = 7 ∨ k = 8 ∨ k = 9 ∨ k = 12 ∨ k = 13)) = (decide (k = 7)) := by simp [c5, c11, c20, c26, c28, c30]
   refine jJ ⟨?_, ?_⟩
   · first | (rw [e31]; exact ha.keeps [3, 4, 6, 39] _ rfl) | exact ha.keeps [3, 4, 6, 39] _ rfl
   · first | (rw [e31]; exact hS) | exact hS
  refine jW ha rfl (decide_eq_false c30) ?_
  refine wp_seq (jX [0, 1] (jQ [(0, 43, .bool (decide (k = 8))), (1, 39, .bool (decide (k = 8)))] ha fun a ha => ?_))
  refine jY ?_
  replace ha := ha.as [(3, ptr b3 0), (4, .bool false), (6, iv k), (39, .bool (decide (k = 8)))] rfl
  refine jJ ?_
  by_cases c32 : k = 8
  ·
   refine jV ha rfl (decide_eq_true c32) ?_;refine wp_skip ?_;have e33 : (decide (k = 3 ∨ k = 6 ∨ k = 7 ∨ k = 8 ∨ k = 9 ∨ k = 12 ∨ k = 13)) = (decide (k = 8)) := by simp [c5, c11, c20, c26, c28, c30, c32]
   refine jJ ⟨?_, ?_⟩
   · first | (rw [e33]; exact ha.keeps [3, 4, 6, 39] _ rfl) | exact ha.keeps [3, 4, 6, 39] _ rfl
   · first | (rw [e33]; exact hS) | exact hS
  refine jW ha rfl (decide_eq_false c32) ?_
  refine wp_seq (jX [0, 1] (jQ [(0, 44, .bool (decide (k = 9))), (1, 39, .bool (decide (k = 9)))] ha fun a ha => ?_))
  refine jY (jJ ?_)
  by_cases c34 : k = 9
  ·
   refine jV ha rfl (decide_eq_true c34) ?_;refine wp_skip ?_;have e35 : (decide (k = 3 ∨ k = 6 ∨ k = 7 ∨ k = 8 ∨ k = 9 ∨ k = 12 ∨ k = 13)) = (decide (k = 9)) := by simp [c5, c11, c20, c26, c28, c30, c32, c34]
   refine jJ ⟨?_, ?_⟩
   · first | (rw [e35]; exact ha.keeps [3, 4, 6, 39] _ rfl) | exact ha.keeps [3, 4, 6, 39] _ rfl
   · first | (rw [e35]; exact hS) | exact hS
  refine jW ha rfl (decide_eq_false c34) ?_
  refine wp_seq (jX [0, 1] (jQ [(0, 45, .bool (decide (k = 12))), (1, 39, .bool (decide (k = 12)))] ha fun a ha => ?_))
  refine jY (jJ ?_)
  by_cases c36 : k = 12
  ·
   refine jV ha rfl (decide_eq_true c36) ?_;refine wp_skip ?_;have e37 : (decide (k = 3 ∨ k = 6 ∨ k = 7 ∨ k = 8 ∨ k = 9 ∨ k = 12 ∨ k = 13)) = (decide (k = 12)) := by simp [c5, c11, c20, c26, c28, c30, c32, c34, c36]
   refine jJ ⟨?_, ?_⟩
   · first | (rw [e37]; exact ha.keeps [3, 4, 6, 39] _ rfl) | exact ha.keeps [3, 4, 6, 39] _ rfl
   · first | (rw [e37]; exact hS) | exact hS
  refine jW ha rfl (decide_eq_false c36) ?_
  refine jX [0, 1] (jQ [(0, 46, .bool (decide (k = 13))), (1, 39, .bool (decide (k = 13)))] ha fun a ha => ?_)
  refine jY ?_
  have e38 : (decide (k = 3 ∨ k = 6 ∨ k = 7 ∨ k = 8 ∨ k = 9 ∨ k = 12 ∨ k = 13)) = (decide (k = 13)) := by simp [c5, c11, c20, c26, c28, c30, c32, c34, c36]
  refine jJ ⟨?_, ?_⟩
  · first | (rw [e38]; exact ha.keeps [3, 4, 6, 39] _ rfl) | exact ha.keeps [3, 4, 6, 39] _ rfl
  · first | (rw [e38]; exact hS) | exact hS
 rintro a w ⟨ha, hS⟩
 by_cases c39 : k = 3 ∨ k = 6 ∨ k = 7 ∨ k = 8 ∨ k = 9 ∨ k = 12 ∨ k = 13
 ·
  refine jV ha rfl (decide_eq_true c39) ?_
  refine wp_seq (jX [0, 1, 2, 3, 4, 5, 6, 7, 8] (jQ [(0, 47, ptr b3 1)] ha fun a ha => ?_))
  refine qQ (d := 48) (b := b3) (j := 1) ha (hS.blk 0 rfl) rfl fun a ha => ?_
  refine jK (xJ 49 (vs := [iv xa]) ha (q_reg hS _) fun v40 w a hp41 ha => ?_)
  obtain ⟨rfl, hS⟩ := hp41
  refine jQ [(3, 50, .bool (regB xa))] ha fun a ha => ?_
  rcases Bool.eq_false_or_eq_true (regB xa) with c42 | c42
  ·
   replace ha := ha.turn 49 (.bool true) rfl (congrArg Value.bool c42);replace ha := ha.turn 50 (.bool true) rfl (congrArg Value.bool c42);refine jQ [(4, 51, ptr b3 2)] ha fun a ha => ?_;refine qQ (d := 52) (b := b3) (j := 2) ha (hS.blk 0 rfl) rfl fun a ha => ?_;refine jQ [(6, 53, .bool (decide (xb = 0))), (7, 54, .bool (decide (xb = 0))), (8, 4, .bool (decide (xb = 0)))] ha fun a ha => ?_;refine jY ?_;replace ha := ha.as [(4, .bool (decide (xb = 0)))] rfl;refine jJ (wp_ret (in_r (qH (qG ha (by kernel_rfl) (xG (t := 4) ha rfl) ?_))));have hE : stepB (pv.n : Int) k xa xb = decide (xb = 0) := by rcases c39 with h | h | h | h | h | h | h <;> simp [stepB, h, c42]
   rw [hE];exact ⟨rfl, Sat.rest [_, _] hS⟩
  replace ha := ha.turn 49 (.bool false) rfl (congrArg Value.bool c42)
  replace ha := ha.turn 50 (.bool false) rfl (congrArg Value.bool c42)
  refine jQ [(4, 51, undef), (5, 52, undef), (6, 53, undef), (7, 54, .bool false), (8, 4, .bool false)] ha fun a ha => ?_
  refine jY ?_
  replace ha := ha.as [(4, .bool false)] rfl
  refine jJ (wp_ret (in_r (qH (qG ha (by kernel_rfl) (xG (t := 4) ha rfl) ?_))))
  have hE : stepB (pv.n : Int) k xa xb = false := by rcases c39 with h | h | h | h | h | h | h <;> simp [stepB, h, c42]
  rw [hE]
  exact ⟨rfl, Sat.rest [_, _] hS⟩
 refine jW ha rfl (decide_eq_false c39) ?_
 refine wp_seq (jX [0, 1] (jQ [(0, 56, .bool (decide (k = 10))), (1, 55, .bool (decide (k = 10)))] ha fun a ha => ?_))
 refine jY (jJ ?_)
 by_cases c43 : k = 10
 ·
  refine jV ha rfl (decide_eq_true c43) ?_
  refine wp_seq (jX [0, 1, 2, 3, 4, 5, 6, 7, 8] (jQ [(0, 57, ptr b3 1)] ha fun a ha => ?_))
  refine qQ (d := 58) (b := b3) (j := 1) ha (hS.blk 0 rfl) rfl fun a ha => ?_
  refine jQ [(2, 59, .bool (decide (xa = 0))), (3, 60, .bool (decide (xa = 0)))] ha fun a ha => ?_
  by_cases c44 : xa = 0
  ·
   replace ha := ha.turn 59 (.bool true) rfl (congrArg Value.bool (decide_eq_true c44));replace ha := ha.turn 60 (.bool true) rfl (congrArg Value.bool (decide_eq_true c44));refine jQ [(4, 61, ptr b3 2)] ha fun a ha => ?_;refine qQ (d := 62) (b := b3) (j := 2) ha (hS.blk 0 rfl) rfl fun a ha => ?_;refine jQ [(6, 63, .bool (decide (xb = 0))), (7, 64, .bool (decide (xb = 0))), (8, 4, .bool (decide (xb = 0)))] ha fun a ha => ?_;refine jY ?_;replace ha := ha.as [(4, .bool (decide (xb = 0)))] rfl;refine jJ (wp_ret (in_r (qH (qG ha (by kernel_rfl) (xG (t := 4) ha rfl) ?_))));have hE : stepB (pv.n : Int) k xa xb = decide (xb = 0) := by first | (simp [stepB, c5, c11, c20, c39, c43, c44]; done) | (simp only [stepB, show (decide (1 ≤ k) && decide (k ≤ 13)) = false by (simp; omega), Bool.false_and])
   rw [hE];exact ⟨rfl, Sat.rest [_, _] hS⟩
  replace ha := ha.turn 59 (.bool false) rfl (congrArg Value.bool (decide_eq_false c44))
  replace ha := ha.turn 60 (.bool false) rfl (congrArg Value.bool (decide_eq_false c44))
  refine jQ [(4, 61, undef), (5, 62, undef), (6, 63, undef), (7, 64, .bool false), (8, 4, .bool false)] ha fun a ha => ?_
  refine jY ?_
  replace ha := ha.as [(4, .bool false)] rfl
  refine jJ (wp_ret (in_r (qH (qG ha (by kernel_rfl) (xG (t := 4) ha rfl) ?_))))
  have hE : stepB (pv.n : Int) k xa xb = false := by first | (simp [stepB, c5, c11, c20, c39, c43, c44]; done) | (simp only [stepB, show (decide (1 ≤ k) && decide (k ≤ 13)) = false by (simp; omega), Bool.false_and])
  rw [hE]
  exact ⟨rfl, Sat.rest [_, _] hS⟩
 refine jW ha rfl (decide_eq_false c43) ?_
 refine wp_seq (jX [0, 1] (jQ [(0, 66, .bool (decide (k = 11))), (1, 65, .bool (decide (k = 11)))] ha fun a ha => ?_))
 refine jY (jJ ?_)
 by_cases c45 : k = 11
 ·
  refine jV ha rfl (decide_eq_true c45) ?_
  refine wp_seq (jX [0, 1, 2, 3, 4, 5, 6, 7, 8] (jQ [(0, 67, ptr b3 1)] ha fun a ha => ?_))
  refine qQ (d := 68) (b := b3) (j := 1) ha (hS.blk 0 rfl) rfl fun a ha => ?_
  refine jK (xJ 69 (vs := [iv xa, iv 0, iv 8]) ha (q_in hS _ _ _) fun v46 w a hp47 ha => ?_)
  obtain ⟨rfl, hS⟩ := hp47
  refine jQ [(3, 70, .bool (decide ((0 : Int) ≤ xa) && decide (xa ≤ 8)))] ha fun a ha => ?_
  rcases Bool.eq_false_or_eq_true (decide ((0 : Int) ≤ xa) && decide (xa ≤ 8)) with c48 | c48
  ·
   replace ha := ha.turn 69 (.bool true) rfl (congrArg Value.bool c48);replace ha := ha.turn 70 (.bool true) rfl (congrArg Value.bool c48);refine jQ [(4, 71, ptr b3 2)] ha fun a ha => ?_;refine qQ (d := 72) (b := b3) (j := 2) ha (hS.blk 0 rfl) rfl fun a ha => ?_;refine jK (xJ 73 (vs := [iv xb]) ha (q_reg hS _) fun v49 w a hp50 ha => ?_);obtain ⟨rfl, hS⟩ := hp50;refine jQ [(7, 74, .bool (regB xb)), (8, 4, .bool (regB xb))] ha fun a ha => ?_;refine jY ?_;replace ha := ha.as [(4, .bool (regB xb))] rfl;refine jJ (wp_ret (in_r (qH (qG ha (by kernel_rfl) (xG (t := 4) ha rfl) ?_))));have hE : stepB (pv.n : Int) k xa xb = (regB xb) := by first | (simp [stepB, c5, c11, c20, c39, c43, c45, c48]; done) | (simp only [stepB, show (decide (1 ≤ k) && decide (k ≤ 13)) = false by (simp; omega), Bool.false_and])
   rw [hE];exact ⟨rfl, Sat.rest [_, _] hS⟩
  replace ha := ha.turn 69 (.bool false) rfl (congrArg Value.bool c48)
  replace ha := ha.turn 70 (.bool false) rfl (congrArg Value.bool c48)
  refine jQ [(4, 71, undef), (5, 72, undef), (6, 73, undef), (7, 74, .bool false), (8, 4, .bool false)] ha fun a ha => ?_
  refine jY ?_
  replace ha := ha.as [(4, .bool false)] rfl
  refine jJ (wp_ret (in_r (qH (qG ha (by kernel_rfl) (xG (t := 4) ha rfl) ?_))))
  have hE : stepB (pv.n : Int) k xa xb = false := by first | (simp [stepB, c5, c11, c20, c39, c43, c45, c48]; done) | (simp only [stepB, show (decide (1 ≤ k) && decide (k ≤ 13)) = false by (simp; omega), Bool.false_and])
  rw [hE]
  exact ⟨rfl, Sat.rest [_, _] hS⟩
 refine jW ha rfl (decide_eq_false c45) ?_
 refine wp_skip (in_n (jJ (wp_seq (jX [0] (jQ [(0, 4, .bool false)] ha fun a ha => ?_)))))
 refine jY ?_
 replace ha := ha.as [(4, .bool false)] rfl
 refine jJ (wp_ret (qG ha (by kernel_rfl) (xG (t := 4) ha rfl) ?_))
 have hE : stepB (pv.n : Int) k xa xb = false := by first | (simp [stepB, c5, c11, c20, c39, c43, c45]; done) | (simp only [stepB, show (decide (1 ≤ k) && decide (k ≤ 13)) = false by (simp; omega), Bool.false_and])
 rw [hE]
 exact ⟨rfl, Sat.rest [_, _] hS⟩
theorem code82 : Try.f82.body = some (Code.seq (cr Try.f82 0 false) (Code.seq (Code.seq (cr Try.f82 1 false) (Code.cond (Operand.tmp 9) (Code.seq (cr Try.f82 2 false) Code.ret) Code.skip)) (Code.seq (Code.seq (cr Try.f82 3 false) (Code.block 0 (Code.loop (Code.seq (Code.seq (cr Try.f82 4 false) (Code.cond (Operand.tmp 14) Code.skip (Code.exit 0))) (Code.seq (Code.block 1 (Code.seq (Code.seq (cr Try.f82 6 false) (Code.cond (Operand.tmp 23) (Code.seq (cr Try.f82 7 false) Code.ret) Code.skip)) (Code.seq (cr Try.f82 8 false) (Code.block 2 (Code.loop (Code.seq (Code.seq (cr Try.f82 9 false) (Code.cond (Operand.tmp 31) Code.skip (Code.exit 2))) (Code.seq (Code.block 3 (Code.seq (cr Try.f82 11 true) (Code.cond (Operand.tmp 44) (Code.seq (cr Try.f82 12 false) Code.ret) Code.skip))) (cr Try.f82 10 false)))))))) (cr Try.f82 5 false)))))) (Code.seq (cr Try.f82 13 false) Code.ret)))) := by kernel_rfl
theorem q_prog {w0 w : World} {Rs : List Asn} {P : List (List Stp)} {pv : Sl} {sbs : List Sl} (hS : Sat w0 w Rs) (hl : P.length ≤ 2000000) (hPr : Keeps w0 Rs (fun w => RdProg w pv sbs P)) :
  Calls Try.prog 82 #[.agg #[.slice pv.A pv.n pv.c]] w (Ret fun r w' => r = .bool (progQ P) ∧ Sat w0 w' Rs) := by
 have hpn := (hPr w hS).len
 have hpA := (hPr w hS).A
 refine enter (n := 45) Try.func82 code82 (by kernel_rfl) (Nat.le_of_ble_eq_true rfl) (fun a ha => ?_)
 replace ha : Has 45 [(0, .agg #[.slice pv.A pv.n pv.c])] a := ha
 refine wp_seq (jX [0, 1] (jK (qV 1 [.slice pv.A pv.n pv.c] 35 (ptr · 0) ha hS fun b1 w a hb2 hS ha => ?_)))
 refine jQ [(1, 2, .bool false)] ha fun a ha => ?_
 refine jY (jJ (wp_seq (wp_seq (jX [0, 1, 2, 3, 4] (jQ [(0, 5, ptr b1 0)] ha fun a ha => ?_)))))
 refine qQ (d := 6) (b := b1) (j := 0) ha (hS.blk 0 rfl) rfl fun a ha => ?_
 refine jQ [(2, 7, iv (pv.n : Int))] ha fun a ha => ?_
 refine jK (xJ 8 (vs := [iv (pv.n : Int), iv 1, iv 6]) ha (q_in hS _ _ _) fun v3 w a hp4 ha => ?_)
 obtain ⟨rfl, hS⟩ := hp4
 refine jQ [(4, 9, .bool (!((decide ((1 : Int) ≤ (pv.n : Int)) && decide ((pv.n : Int) ≤ 6)))))] ha fun a ha => ?_
 refine jY (jJ ?_)
 rcases Bool.eq_false_or_eq_true (decide ((1 : Int) ≤ (pv.n : Int)) && decide ((pv.n : Int) ≤ 6)) with c5 | c5
 ·
  refine jW ha rfl (zJ c5) ?_
  refine wp_skip (jJ (wp_seq (wp_seq (jX [0] (jQ [(0, 3, iv 0)] ha fun a ha => ?_)))))
  refine jY (jJ (wp_block ?_))
  refine wp_loop_ghost (fun n_ a_ w_ => ∃ (i : Nat), n_ = P.length - i ∧ (i ≤ P.length) ∧ (∀ b ∈ P.take i, okB P.length b = true) ∧ Has 45 [(1, ptr b1 0), (2, .bool false), (3, iv (i : Int))] a_ ∧ Sat w0 w_ ((SX.blk b1 [.slice pv.A pv.n pv.c] 35) :: Rs)) _ ⟨0, rfl, Nat.zero_le _, (fun b hb => by simp at hb), ha.keeps [1, 2, 3] _ rfl, hS⟩ ?_
  rintro n_ a w ⟨i, rfl, hi, hall, ha, hS⟩
  refine wp_seq (wp_seq (jX [0, 1, 2, 3, 4] (jQ [(0, 10, iv (i : Int)), (1, 11, ptr b1 0)] ha fun a ha => ?_)))
  refine qQ (d := 12) (b := b1) (j := 0) ha (hS.blk 0 rfl) rfl fun a ha => ?_
  refine jQ [(3, 13, iv (pv.n : Int)), (4, 14, .bool (decide ((i : Int) < (pv.n : Int))))] ha fun a ha => ?_
  refine jY (jJ ?_)
  by_cases c6 : (i : Int) < (pv.n : Int)
  ·
   have hlt : i < P.length := by have := c6; omega
   obtain ⟨body, hb⟩ : ∃ b, P[i]? = some b := ⟨_, List.getElem?_eq_getElem hlt⟩;obtain ⟨sb, hbn, hbA, hsb⟩ := RdProg.body hPr (Sat.rest [_] hS) hb;refine jV ha rfl (decide_eq_true c6) ?_;refine wp_skip (jJ (wp_seq (wp_block (wp_seq (wp_seq (jX [0, 1, 2, 3, 4, 5, 6] (jQ [(0, 17, ptr b1 0)] ha fun a ha => ?_)))))));refine qQ (d := 18) (b := b1) (j := 0) ha (hS.blk 0 rfl) rfl fun a ha => ?_;refine jQ [(2, 19, iv (i : Int))] ha fun a ha => ?_;refine zQ (.pointer (some ⟨bk pv, of_ pv + i * 1, none⟩)) ha (kQ (s := pv) (el := 109) (sz := 1) (j := i) ha (yH (t := 33) (x := 18) (y := 19) (d := 20)) rfl rfl (by kernel_rfl) (by kernel_rfl) (hpA (by omega)) (by omega)) fun a ha => ?_;refine zQ (.slice sb.A sb.n sb.c) ha (zU ha (zV (t := 109) (x := 20) (d := 21) (ty := 109)) rfl (by kernel_rfl) (fun w' hw => by rw [hw, Nat.mul_one]; exact ((hsb.more [_]) _ hS).1)) fun a ha => ?_;refine jQ [(5, 22, iv (sb.n : Int)), (6, 23, .bool (decide ((sb.n : Int) > 8)))] ha fun a ha => ?_;refine jY (jJ ?_)
   by_cases c7 : (sb.n : Int) > 8
   ·
    refine jV ha rfl (decide_eq_true c7) ?_;refine wp_seq (jX [0] (jQ [(0, 2, .bool false)] ha fun a ha => ?_));refine jY (jJ (wp_ret (qH (in_r (qH (qH (in_r (qH (qG ha (by kernel_rfl) (xG (t := 2) ha rfl) ?_)))))))));have hE := progQ_no (List.mem_of_getElem? hb) (okB_len (by have := c7; omega));rw [hE];exact ⟨rfl, Sat.rest [_] hS⟩
   refine jW ha rfl (decide_eq_false c7) ?_;refine wp_skip (jJ (wp_seq (jX [0] (jQ [(0, 4, iv 0)] ha fun a ha => ?_))));refine jY (jJ (wp_block ?_));refine wp_loop_ghost (fun n_ a_ w_ => ∃ (j : Nat), n_ = body.length - j ∧ (j ≤ body.length) ∧ (∀ s ∈ body.take j, stepB (P.length : Int) s.k s.a s.b = true) ∧ Has 45 [(1, ptr b1 0), (2, .bool false), (3, iv (i : Int)), (4, iv (j : Int))] a_ ∧ Sat w0 w_ ((SX.blk b1 [.slice pv.A pv.n pv.c] 35) :: Rs)) _ ⟨0, rfl, Nat.zero_le _, (fun b hb => by simp at hb), ha.keeps [1, 2, 3, 4] _ rfl, hS⟩ ?_
   rintro n_ a w ⟨j, rfl, hj, hin, ha, hS⟩
   refine wp_seq (wp_seq (jX [0, 1, 2, 3, 4, 5, 6, 7] (jQ [(0, 24, iv (j : Int)), (1, 25, ptr b1 0)] ha fun a ha => ?_)));refine qQ (d := 26) (b := b1) (j := 0) ha (hS.blk 0 rfl) rfl fun a ha => ?_;refine jQ [(3, 27, iv (i : Int))] ha fun a ha => ?_;refine zQ (.pointer (some ⟨bk pv, of_ pv + i * 1, none⟩)) ha (kQ (s := pv) (el := 109) (sz := 1) (j := i) ha (yH (t := 33) (x := 26) (y := 27) (d := 28)) rfl rfl (by kernel_rfl) (by kernel_rfl) (hpA (by omega)) (by omega)) fun a ha => ?_;refine zQ (.slice sb.A sb.n sb.c) ha (zU ha (zV (t := 109) (x := 28) (d := 29) (ty := 109)) rfl (by kernel_rfl) (fun w' hw => by rw [hw, Nat.mul_one]; exact ((hsb.more [_]) _ hS).1)) fun a ha => ?_;refine jQ [(6, 30, iv (sb.n : Int)), (7, 31, .bool (decide ((j : Int) < (sb.n : Int))))] ha fun a ha => ?_;refine jY (jJ ?_)
   by_cases c8 : (j : Int) < (sb.n : Int)
   ·
    have hlj : j < body.length := by have := c8; omega
    obtain ⟨z, hz⟩ : ∃ z, body[j]? = some z := ⟨_, List.getElem?_eq_getElem hlj⟩;refine jV ha rfl (decide_eq_true c8) ?_;refine wp_skip (jJ (wp_seq (wp_block (wp_seq (xY 9 11 hS fun w hS => ?_)))));refine yJ 0 34 ha hS (fun _ hw => hw.blk 0 rfl) fun a ha => ?_;refine jZ (k := 9) [(1, 35, ptr b1 0)] ha (.inr hS) fun a ha => ?_;refine d_ldN 2 (d := 36) (b := b1) (j := 0) ha hS (fun _ hw => hw.blk 0 rfl) rfl fun a ha => ?_;refine jZ (k := 7) [(3, 37, iv (i : Int))] ha (.inr hS) fun a ha => ?_;refine yY 4 (.pointer (some ⟨bk pv, of_ pv + i * 1, none⟩)) ha (kQ (s := pv) (el := 109) (sz := 1) (j := i) ha (yH (t := 33) (x := 36) (y := 37) (d := 38)) rfl rfl (by kernel_rfl) (by kernel_rfl) (hpA (by omega)) (by omega)) (.inr hS) fun a ha => ?_;refine d_valN (i := 5) (v := .slice sb.A sb.n sb.c) ha (by decide) (zU (v := .slice sb.A sb.n sb.c) ha (zV (t := 109) (x := 38) (d := 39) (ty := 109)) rfl (by kernel_rfl) (fun w' hw => by rw [Nat.mul_one]; exact ((hsb.more [_]) _ hw).1)) hS (by kernel_rfl) (by kernel_rfl) (kX (kV (kX (kX (kV (kV (kX (kX (kV (kX (kK))))))))))) fun a ha => ?_;refine jZ (k := 4) [(6, 40, iv (j : Int))] ha (.inr hS) fun a ha => ?_;refine yY 7 (.pointer (some ⟨bk sb, of_ sb + j * 3, none⟩)) ha (kQ (s := sb) (el := 176) (sz := 3) (j := j) ha (yH (t := 109) (x := 39) (y := 40) (d := 41)) rfl rfl (by kernel_rfl) (by kernel_rfl) (hbA (by omega)) (by omega)) (.inr hS) fun a ha => ?_;refine zW 8 (.agg #[iv z.k, iv z.a, iv z.b]) ha (v_loadL ha (zV (t := 176) (x := 41) (d := 42) (ty := 176)) rfl (fun w' hw => ((hsb.more [_]) _ hw).2.load hz)) hS fun a ha => ?_;refine jU 9 (xJ 43 (vs := [.agg #[.slice pv.A pv.n pv.c], .agg #[iv z.k, iv z.a, iv z.b]]) ha (q_step hS (by omega)) fun v9 w a hp10 ha => ?_);obtain ⟨rfl, hS⟩ := hp10;refine xX (jZ (k := 0) [(10, 44, .bool (!((stepB (pv.n : Int) z.k z.a z.b))))] ha (.inl (by kernel_rfl)) fun a ha => ?_);refine qU (jJ ?_)
    rcases Bool.eq_false_or_eq_true (stepB (pv.n : Int) z.k z.a z.b) with c11 | c11
    ·
     refine jW ha rfl (zJ c11) ?_;refine wp_skip (in_n (jJ (jX [0, 1, 2] (jQ [(0, 32, iv (j : Int))] ha fun a ha => ?_))));refine zZ 33 ((j : Int) + 1) ha fun a ha => ?_;refine jQ [(2, 4, iv ((j : Int) + 1))] ha fun a ha => ?_;refine jY (jJ ?_);exact ⟨_, by omega, j + 1, rfl, by omega, take_all hin hz (by rw [← hpn]; exact c11), ha.keeps [1, 2, 3, 4] _ rfl, hS⟩
    refine jV ha rfl (kJ c11) ?_;refine wp_seq (jX [0] (jQ [(0, 2, .bool false)] ha fun a ha => ?_));refine jY (jJ (wp_ret (in_r (qH (qH (in_r (in_r (qH (qH (in_r (qH (qG ha (by kernel_rfl) (xG (t := 2) ha rfl) ?_))))))))))));have hE := progQ_no (List.mem_of_getElem? hb) (okB_step (List.mem_of_getElem? hz) (by rw [← hpn]; exact c11));rw [hE];exact ⟨rfl, Sat.rest [_] hS⟩
   refine jW ha rfl (decide_eq_false c8) ?_;refine wp_exit (xW (xW (in_x (in_n (jJ (jX [0, 1, 2] (jQ [(0, 15, iv (i : Int))] ha fun a ha => ?_)))))));refine zZ 16 ((i : Int) + 1) ha fun a ha => ?_;refine jQ [(2, 3, iv ((i : Int) + 1))] ha fun a ha => ?_;refine jY (jJ ?_);exact ⟨_, by omega, i + 1, rfl, by omega, take_all hall hb (okB_yes (by omega) (by rw [show body = body.take j by rw [List.take_of_length_le (by have := c8; omega)]]; exact hin)), ha.keeps [1, 2, 3] _ rfl, hS⟩
  refine jW ha rfl (decide_eq_false c6) ?_
  refine wp_exit (xW (xW (in_x (jJ (wp_seq (jX [0] (jQ [(0, 2, .bool true)] ha fun a ha => ?_)))))))
  refine jY (jJ (wp_ret (qG ha (by kernel_rfl) (xG (t := 2) ha rfl) ?_)))
  have hE := progQ_yes (by rw [← hpn]; exact c5) (by rw [show P = P.take i by rw [List.take_of_length_le (by have := c6; omega)]]; intro b hb; rw [List.length_take, Nat.min_eq_left hi, show i = P.length by have := c6; omega]; exact hall b hb)
  rw [hE]
  exact ⟨rfl, Sat.rest [_] hS⟩
 refine jV ha rfl (kJ c5) ?_
 refine wp_seq (jX [0] (jQ [(0, 2, .bool false)] ha fun a ha => ?_))
 refine jY (jJ (wp_ret (qH (qG ha (by kernel_rfl) (xG (t := 2) ha rfl) ?_))))
 have hE := progQ_len (by rw [← hpn]; exact c5)
 rw [hE]
 exact ⟨rfl, Sat.rest [_] hS⟩
theorem code63 : Try.f63.body = some (Code.seq (cr Try.f63 0 false) (Code.seq (cr Try.f63 1 false) Code.ret)) := by kernel_rfl
theorem q_ask {w0 w : World} {Rs : List Asn} {P : List (List Stp)} {pv : Sl} {sbs : List Sl} {f arg fuel : Int} (hS : Sat w0 w Rs) (hl : P.length ≤ 2000000) (hPr : Keeps w0 Rs (fun w => RdProg w pv sbs P)) :
  Calls Try.prog 63 #[.agg #[.slice pv.A pv.n pv.c], .int .i64 f, .int .i64 arg, .int .i64 fuel] w (Ret fun r w' => r = .bool (progQ P && (decide ((0 : Int) ≤ f) && decide (f ≤ (pv.n : Int) - 1)) && numB arg && (decide ((0 : Int) ≤ fuel) && decide (fuel ≤ 200))) ∧ Sat w0 w' Rs) := by
 have hpn := (hPr w hS).len
 refine enter (n := 24) Try.func63 code63 (by kernel_rfl) (Nat.le_of_ble_eq_true rfl) (fun a ha => ?_)
 replace ha : Has 24 [(0, .agg #[.slice pv.A pv.n pv.c]), (1, iv f), (2, iv arg), (3, iv fuel)] a := ha
 refine wp_seq (jX [0, 1] (jK (qV 4 [.slice pv.A pv.n pv.c] 35 (ptr · 0) ha hS fun b1 w a hb2 hS ha => ?_)))
 refine jQ [(1, 8, .bool false)] ha fun a ha => ?_
 refine jY (jJ (wp_seq (jX [0, 1, 2, 3, 4, 5, 6, 7, 8, 9, 10, 11, 12, 13, 14, 15] (zY 9 ha (hS.blk 0 rfl) fun a ha => ?_))))
 refine jK (xJ 10 (vs := [.agg #[.slice pv.A pv.n pv.c]]) ha (q_prog hS hl (hPr.more [_])) fun v3 w a hp4 ha => ?_)
 obtain ⟨rfl, hS⟩ := hp4
 refine jQ [(2, 11, .bool (progQ P))] ha fun a ha => ?_
 rcases Bool.eq_false_or_eq_true (progQ P) with c5 | c5
 ·
  replace ha := ha.turn 10 (.bool true) rfl (congrArg Value.bool c5)
  replace ha := ha.turn 11 (.bool true) rfl (congrArg Value.bool c5)
  refine zY 12 ha (hS.blk 0 rfl) fun a ha => ?_
  refine jQ [(4, 13, iv f)] ha fun a ha => ?_
  refine jK (xJ 14 (vs := [.agg #[.slice pv.A pv.n pv.c], iv f]) ha (q_fun hS _ (by omega)) fun v6 w a hp7 ha => ?_)
  obtain ⟨rfl, hS⟩ := hp7
  refine jQ [(6, 15, .bool (decide ((0 : Int) ≤ f) && decide (f ≤ (pv.n : Int) - 1))), (7, 16, .bool (decide ((0 : Int) ≤ f) && decide (f ≤ (pv.n : Int) - 1)))] ha fun a ha => ?_
  rcases Bool.eq_false_or_eq_true (decide ((0 : Int) ≤ f) && decide (f ≤ (pv.n : Int) - 1)) with c8 | c8
  ·
   replace ha := ha.turn 14 (.bool true) rfl (congrArg Value.bool c8);replace ha := ha.turn 15 (.bool true) rfl (congrArg Value.bool c8);replace ha := ha.turn 16 (.bool true) rfl (congrArg Value.bool c8);refine jQ [(8, 17, iv arg)] ha fun a ha => ?_;refine jK (xJ 18 (vs := [iv arg]) ha (q_num hS _) fun v9 w a hp10 ha => ?_);obtain ⟨rfl, hS⟩ := hp10;refine jQ [(10, 19, .bool (numB arg)), (11, 20, .bool (numB arg))] ha fun a ha => ?_
   rcases Bool.eq_false_or_eq_true (numB arg) with c11 | c11
   ·
    replace ha := ha.turn 18 (.bool true) rfl (congrArg Value.bool c11);replace ha := ha.turn 19 (.bool true) rfl (congrArg Value.bool c11);replace ha := ha.turn 20 (.bool true) rfl (congrArg Value.bool c11);refine jQ [(12, 21, iv fuel)] ha fun a ha => ?_;refine jK (xJ 22 (vs := [iv fuel, iv 0, iv 200]) ha (q_in hS _ _ _) fun v12 w a hp13 ha => ?_);obtain ⟨rfl, hS⟩ := hp13;refine jQ [(14, 23, .bool (decide ((0 : Int) ≤ fuel) && decide (fuel ≤ 200))), (15, 8, .bool (decide ((0 : Int) ≤ fuel) && decide (fuel ≤ 200)))] ha fun a ha => ?_;refine jY ?_;replace ha := ha.as [(8, .bool (decide ((0 : Int) ≤ fuel) && decide (fuel ≤ 200)))] rfl;refine jJ (wp_ret (qG ha (by kernel_rfl) (xG (t := 8) ha rfl) ?_));have hE : (progQ P && (decide ((0 : Int) ≤ f) && decide (f ≤ (pv.n : Int) - 1)) && numB arg && (decide ((0 : Int) ≤ fuel) && decide (fuel ≤ 200))) = (decide ((0 : Int) ≤ fuel) && decide (fuel ≤ 200)) := by simp only [c5, c8, c11, Bool.true_and, Bool.false_and, Bool.and_self]
    rw [hE];exact ⟨rfl, Sat.rest [_] hS⟩
   replace ha := ha.turn 18 (.bool false) rfl (congrArg Value.bool c11);replace ha := ha.turn 19 (.bool false) rfl (congrArg Value.bool c11);replace ha := ha.turn 20 (.bool false) rfl (congrArg Value.bool c11);refine jQ [(12, 21, undef), (13, 22, undef), (14, 23, .bool false), (15, 8, .bool false)] ha fun a ha => ?_;refine jY ?_;replace ha := ha.as [(8, .bool false)] rfl;refine jJ (wp_ret (qG ha (by kernel_rfl) (xG (t := 8) ha rfl) ?_));have hE : (progQ P && (decide ((0 : Int) ≤ f) && decide (f ≤ (pv.n : Int) - 1)) && numB arg && (decide ((0 : Int) ≤ fuel) && decide (fuel ≤ 200))) = false := by simp only [c5, c8, c11, Bool.true_and, Bool.false_and, Bool.and_self]
   rw [hE];exact ⟨rfl, Sat.rest [_] hS⟩
  replace ha := ha.turn 14 (.bool false) rfl (congrArg Value.bool c8)
  replace ha := ha.turn 15 (.bool false) rfl (congrArg Value.bool c8)
  replace ha := ha.turn 16 (.bool false) rfl (congrArg Value.bool c8)
  refine jQ [(8, 17, undef), (9, 18, undef), (10, 19, .bool false), (11, 20, .bool false), (12, 21, undef), (13, 22, undef), (14, 23, .bool false), (15, 8, .bool false)] ha fun a ha => ?_
  refine jY ?_
  replace ha := ha.as [(8, .bool false)] rfl
  refine jJ (wp_ret (qG ha (by kernel_rfl) (xG (t := 8) ha rfl) ?_))
  have hE : (progQ P && (decide ((0 : Int) ≤ f) && decide (f ≤ (pv.n : Int) - 1)) && numB arg && (decide ((0 : Int) ≤ fuel) && decide (fuel ≤ 200))) = false := by simp only [c5, c8, Bool.true_and, Bool.false_and, Bool.and_self]
  rw [hE]
  exact ⟨rfl, Sat.rest [_] hS⟩
 replace ha := ha.turn 10 (.bool false) rfl (congrArg Value.bool c5)
 replace ha := ha.turn 11 (.bool false) rfl (congrArg Value.bool c5)
 refine jQ [(3, 12, undef), (4, 13, undef), (5, 14, undef), (6, 15, .bool false), (7, 16, .bool false), (8, 17, undef), (9, 18, undef), (10, 19, .bool false), (11, 20, .bool false), (12, 21, undef), (13, 22, undef), (14, 23, .bool false), (15, 8, .bool false)] ha fun a ha => ?_
 refine jY ?_
 replace ha := ha.as [(8, .bool false)] rfl
 refine jJ (wp_ret (qG ha (by kernel_rfl) (xG (t := 8) ha rfl) ?_))
 have hE : (progQ P && (decide ((0 : Int) ≤ f) && decide (f ≤ (pv.n : Int) - 1)) && numB arg && (decide ((0 : Int) ≤ fuel) && decide (fuel ≤ 200))) = false := by simp only [c5, Bool.true_and, Bool.false_and, Bool.and_self]
 rw [hE]
 exact ⟨rfl, Sat.rest [_] hS⟩
theorem code129 : Try.f129.body = some (Code.seq (cr Try.f129 0 false) (Code.seq (Code.seq (cr Try.f129 1 false) (Code.cond (Operand.tmp 9) (Code.seq (cr Try.f129 2 false) Code.ret) Code.skip)) (Code.seq (Code.seq (cr Try.f129 3 false) (Code.cond (Operand.tmp 14) (Code.seq (cr Try.f129 4 false) Code.ret) Code.skip)) (Code.seq (Code.seq (cr Try.f129 5 false) (Code.cond (Operand.tmp 19) (Code.seq (cr Try.f129 6 false) Code.ret) Code.skip)) (Code.seq (cr Try.f129 7 false) Code.ret))))) := by kernel_rfl
theorem eq_step {w0 w : World} {Rs : List Asn} {k xa xb : Int} (hS : Sat w0 w Rs)  :
  Calls Try.prog 129 #[.agg #[iv k, iv xa, iv xb], .agg #[iv k, iv xa, iv xb]] w (Ret fun r w' => r = .bool true ∧ Sat w0 w' Rs) := by
 refine enter (n := 20) Try.func129 code129 (by kernel_rfl) (Nat.le_of_ble_eq_true rfl) (fun a ha => ?_)
 replace ha : Has 20 [(0, .agg #[iv k, iv xa, iv xb]), (1, .agg #[iv k, iv xa, iv xb])] a := ha
 refine wp_seq (jX [0, 1, 2] (jK (qV 2 [iv k, iv xa, iv xb] 176 (ptr · 0) ha hS fun b1 w a hb2 hS ha => ?_)))
 refine jK (qV 3 [iv k, iv xa, iv xb] 176 (ptr · 0) ha hS fun b3 w a hb4 hS ha => ?_)
 refine jQ [(2, 4, .bool false)] ha fun a ha => ?_
 refine jY (jJ (wp_seq (wp_seq (jX [0, 1, 2, 3, 4] (jQ [(0, 5, ptr b1 0)] ha fun a ha => ?_)))))
 refine qQ (d := 6) (b := b1) (j := 0) ha (hS.blk 1 rfl) rfl fun a ha => ?_
 refine jQ [(2, 7, ptr b3 0)] ha fun a ha => ?_
 refine qQ (d := 8) (b := b3) (j := 0) ha (hS.blk 0 rfl) rfl fun a ha => ?_
 refine zQ (.bool false) ha ((qZ (v := .bool (!decide (k = k))) ha (yU (op := (Op.binOp BinOp.neq 3 (Operand.tmp 6) (Operand.tmp 8) 3)) (d := some 9) (ty := 4)) (by kernel_rfl) (fun _ => by kernel_rfl)).as (by simp)) fun a ha => ?_
 refine jY (jJ ?_)
 refine jW ha rfl rfl ?_
 refine wp_skip (jJ (wp_seq (wp_seq (jX [0, 1, 2, 3, 4] (jQ [(0, 10, ptr b1 1)] ha fun a ha => ?_)))))
 refine qQ (d := 11) (b := b1) (j := 1) ha (hS.blk 1 rfl) rfl fun a ha => ?_
 refine jQ [(2, 12, ptr b3 1)] ha fun a ha => ?_
 refine qQ (d := 13) (b := b3) (j := 1) ha (hS.blk 0 rfl) rfl fun a ha => ?_
 refine zQ (.bool false) ha ((qZ (v := .bool (!decide (xa = xa))) ha (yU (op := (Op.binOp BinOp.neq 3 (Operand.tmp 11) (Operand.tmp 13) 3)) (d := some 14) (ty := 4)) (by kernel_rfl) (fun _ => by kernel_rfl)).as (by simp)) fun a ha => ?_
 refine jY (jJ ?_)
 refine jW ha rfl rfl ?_
 refine wp_skip (jJ (wp_seq (wp_seq (jX [0, 1, 2, 3, 4] (jQ [(0, 15, ptr b1 2)] ha fun a ha => ?_)))))
 refine qQ (d := 16) (b := b1) (j := 2) ha (hS.blk 1 rfl) rfl fun a ha => ?_
 refine jQ [(2, 17, ptr b3 2)] ha fun a ha => ?_
 refine qQ (d := 18) (b := b3) (j := 2) ha (hS.blk 0 rfl) rfl fun a ha => ?_
 refine zQ (.bool false) ha ((qZ (v := .bool (!decide (xb = xb))) ha (yU (op := (Op.binOp BinOp.neq 3 (Operand.tmp 16) (Operand.tmp 18) 3)) (d := some 19) (ty := 4)) (by kernel_rfl) (fun _ => by kernel_rfl)).as (by simp)) fun a ha => ?_
 refine jY (jJ ?_)
 refine jW ha rfl rfl ?_
 refine wp_skip (jJ (wp_seq (jX [0] (jQ [(0, 4, .bool true)] ha fun a ha => ?_))))
 refine jY ?_
 replace ha := ha.as [(4, .bool true)] rfl
 refine jJ (wp_ret (qG ha (by kernel_rfl) (xG (t := 4) ha rfl) ?_))
 exact ⟨rfl, Sat.rest [_, _] hS⟩
theorem code98 : Try.f98.body = some (Code.seq (cr Try.f98 0 false) (Code.seq (Code.seq (cr Try.f98 1 false) (Code.cond (Operand.tmp 10) (Code.seq (cr Try.f98 2 false) Code.ret) Code.skip)) (Code.seq (Code.seq (cr Try.f98 3 false) (Code.block 0 (Code.loop (Code.seq (Code.seq (cr Try.f98 4 false) (Code.cond (Operand.tmp 14) Code.skip (Code.exit 0))) (Code.seq (Code.block 1 (Code.seq (cr Try.f98 6 true) (Code.cond (Operand.tmp 26) (Code.seq (cr Try.f98 7 false) Code.ret) Code.skip))) (cr Try.f98 5 false)))))) (Code.seq (cr Try.f98 8 false) Code.ret)))) := by kernel_rfl
theorem eq_steps {w0 w : World} {Rs : List Asn} {b : List Stp} {s1 s2 : Sl} (hS : Sat w0 w Rs) (h1 : Keeps w0 Rs (fun w => RdBody w s1 b)) (h2 : Keeps w0 Rs (fun w => RdBody w s2 b)) (hlb : b.length ≤ 2000000) :
  Calls Try.prog 98 #[.slice s1.A s1.n s1.c, .slice s2.A s2.n s2.c] w (Ret fun r w' => r = .bool true ∧ Sat w0 w' Rs) := by
 have hn1 := (h1 w hS).len
 have hn2 := (h2 w hS).len
 have hA1 := (h1 w hS).A
 have hA2 := (h2 w hS).A
 refine enter (n := 27) Try.func98 code98 (by kernel_rfl) (Nat.le_of_ble_eq_true rfl) (fun a ha => ?_)
 replace ha : Has 27 [(0, .slice s1.A s1.n s1.c), (1, .slice s2.A s2.n s2.c)] a := ha
 refine wp_seq (jX [0] (jQ [(0, 4, .bool false)] ha fun a ha => ?_))
 refine jY (jJ (wp_seq (wp_seq (jX [0, 1, 2, 3, 4] (jQ [(0, 6, .slice s1.A s1.n s1.c), (1, 7, iv (s1.n : Int)), (2, 8, .slice s2.A s2.n s2.c), (3, 9, iv (s2.n : Int)), (4, 10, .bool (!(decide ((s1.n : Int) = (s2.n : Int)))))] ha fun a ha => ?_)))))
 refine jY (jJ ?_)
 by_cases c1 : (s1.n : Int) = (s2.n : Int)
 ·
  refine jW ha rfl (zJ (decide_eq_true c1)) ?_
  refine wp_skip (jJ (wp_seq (wp_seq (jX [0] (jQ [(0, 5, iv 0)] ha fun a ha => ?_)))))
  refine jY (jJ (wp_block ?_))
  refine wp_loop_ghost (fun n_ a_ w_ => ∃ (i : Nat), n_ = b.length - i ∧ (i ≤ b.length) ∧ Has 27 [(0, .slice s1.A s1.n s1.c), (1, .slice s2.A s2.n s2.c), (5, iv (i : Int))] a_ ∧ Sat w0 w_ (Rs)) _ ⟨0, rfl, Nat.zero_le _, ha.keeps [0, 1, 5] _ rfl, hS⟩ ?_
  rintro n_ a w ⟨i, rfl, hi, ha, hS⟩
  refine wp_seq (wp_seq (jX [0, 1, 2, 3] (jQ [(0, 11, iv (i : Int)), (1, 12, .slice s1.A s1.n s1.c), (2, 13, iv (s1.n : Int)), (3, 14, .bool (decide ((i : Int) < (s1.n : Int))))] ha fun a ha => ?_)))
  refine jY (jJ ?_)
  by_cases c2 : (i : Int) < (s1.n : Int)
  ·
   have hlt : i < b.length := by have := c2; omega
   obtain ⟨z, hz⟩ : ∃ z, b[i]? = some z := ⟨_, List.getElem?_eq_getElem hlt⟩;refine jV ha rfl (decide_eq_true c2) ?_;refine wp_skip (jJ (wp_seq (wp_block (wp_seq (xY 8 10 hS fun w hS => ?_)))));refine jZ (k := 8) [(0, 17, .slice s1.A s1.n s1.c), (1, 18, iv (i : Int))] ha (.inr hS) fun a ha => ?_;refine yY 2 (.pointer (some ⟨bk s1, of_ s1 + i * 3, none⟩)) ha (kQ (s := s1) (el := 176) (sz := 3) (j := i) ha (yH (t := 109) (x := 17) (y := 18) (d := 19)) rfl rfl (by kernel_rfl) (by kernel_rfl) (hA1 (by omega)) (by omega)) (.inr hS) fun a ha => ?_;refine zW 3 (.agg #[iv z.k, iv z.a, iv z.b]) ha (v_loadL ha (zV (t := 176) (x := 19) (d := 20) (ty := 176)) rfl (fun w' hw => (h1 w' hw).load hz)) hS fun a ha => ?_;refine jZ (k := 4) [(4, 21, .slice s2.A s2.n s2.c), (5, 22, iv (i : Int))] ha (.inr hS) fun a ha => ?_;refine yY 6 (.pointer (some ⟨bk s2, of_ s2 + i * 3, none⟩)) ha (kQ (s := s2) (el := 176) (sz := 3) (j := i) ha (yH (t := 109) (x := 21) (y := 22) (d := 23)) rfl rfl (by kernel_rfl) (by kernel_rfl) (hA2 (by omega)) (by omega)) (.inr hS) fun a ha => ?_;refine zW 7 (.agg #[iv z.k, iv z.a, iv z.b]) ha (v_loadL ha (zV (t := 176) (x := 23) (d := 24) (ty := 176)) rfl (fun w' hw => (h2 w' hw).load hz)) hS fun a ha => ?_;refine jU 8 (xJ 25 (vs := [.agg #[iv z.k, iv z.a, iv z.b], .agg #[iv z.k, iv z.a, iv z.b]]) ha (eq_step hS) fun v3 w a hp4 ha => ?_);obtain ⟨rfl, hS⟩ := hp4;refine xX (jZ (k := 0) [(9, 26, .bool false)] ha (.inl (by kernel_rfl)) fun a ha => ?_);refine qU (jJ ?_);refine jW ha rfl rfl ?_;refine wp_skip (in_n (jJ (jX [0, 1, 2] (jQ [(0, 15, iv (i : Int))] ha fun a ha => ?_))));refine zZ 16 ((i : Int) + 1) ha fun a ha => ?_;refine jQ [(2, 5, iv ((i : Int) + 1))] ha fun a ha => ?_;refine jY (jJ ?_);exact ⟨_, by omega, i + 1, rfl, by omega, ha.keeps [0, 1, 5] _ rfl, hS⟩
  refine jW ha rfl (decide_eq_false c2) ?_
  refine wp_exit (xW (xW (in_x (jJ (wp_seq (jX [0] (jQ [(0, 4, .bool true)] ha fun a ha => ?_)))))))
  refine jY (jJ (wp_ret (qG ha (by kernel_rfl) (xG (t := 4) ha rfl) ?_)))
  exact ⟨rfl, hS⟩
 exact absurd (by rw [hn1, hn2]) c1
theorem code59 : Try.f59.body = some (Code.seq (cr Try.f59 0 false) (Code.seq (Code.seq (cr Try.f59 1 false) (Code.cond (Operand.tmp 10) (Code.seq (cr Try.f59 2 false) Code.ret) Code.skip)) (Code.seq (Code.seq (cr Try.f59 3 false) (Code.block 0 (Code.loop (Code.seq (Code.seq (cr Try.f59 4 false) (Code.cond (Operand.tmp 14) Code.skip (Code.exit 0))) (Code.seq (Code.block 1 (Code.seq (cr Try.f59 6 true) (Code.cond (Operand.tmp 26) (Code.seq (cr Try.f59 7 false) Code.ret) Code.skip))) (cr Try.f59 5 false)))))) (Code.seq (cr Try.f59 8 false) Code.ret)))) := by kernel_rfl
theorem eq_rows {w0 w : World} {Rs : List Asn} {b : List (List Stp)} {s1 s2 : Sl} {sbs1 sbs2 : List Sl} (hS : Sat w0 w Rs) (h1 : Keeps w0 Rs (fun w => RdProg w s1 sbs1 b)) (h2 : Keeps w0 Rs (fun w => RdProg w s2 sbs2 b)) (hlb : b.length ≤ 2000000) (hlen : ∀ z ∈ b, z.length ≤ 2000000) :
  Calls Try.prog 59 #[.slice s1.A s1.n s1.c, .slice s2.A s2.n s2.c] w (Ret fun r w' => r = .bool true ∧ Sat w0 w' Rs) := by
 have hn1 := (h1 w hS).len
 have hn2 := (h2 w hS).len
 have hA1 := (h1 w hS).A
 have hA2 := (h2 w hS).A
 refine enter (n := 27) Try.func59 code59 (by kernel_rfl) (Nat.le_of_ble_eq_true rfl) (fun a ha => ?_)
 replace ha : Has 27 [(0, .slice s1.A s1.n s1.c), (1, .slice s2.A s2.n s2.c)] a := ha
 refine wp_seq (jX [0] (jQ [(0, 4, .bool false)] ha fun a ha => ?_))
 refine jY (jJ (wp_seq (wp_seq (jX [0, 1, 2, 3, 4] (jQ [(0, 6, .slice s1.A s1.n s1.c), (1, 7, iv (s1.n : Int)), (2, 8, .slice s2.A s2.n s2.c), (3, 9, iv (s2.n : Int)), (4, 10, .bool (!(decide ((s1.n : Int) = (s2.n : Int)))))] ha fun a ha => ?_)))))
 refine jY (jJ ?_)
 by_cases c1 : (s1.n : Int) = (s2.n : Int)
 ·
  refine jW ha rfl (zJ (decide_eq_true c1)) ?_
  refine wp_skip (jJ (wp_seq (wp_seq (jX [0] (jQ [(0, 5, iv 0)] ha fun a ha => ?_)))))
  refine jY (jJ (wp_block ?_))
  refine wp_loop_ghost (fun n_ a_ w_ => ∃ (i : Nat), n_ = b.length - i ∧ (i ≤ b.length) ∧ Has 27 [(0, .slice s1.A s1.n s1.c), (1, .slice s2.A s2.n s2.c), (5, iv (i : Int))] a_ ∧ Sat w0 w_ (Rs)) _ ⟨0, rfl, Nat.zero_le _, ha.keeps [0, 1, 5] _ rfl, hS⟩ ?_
  rintro n_ a w ⟨i, rfl, hi, ha, hS⟩
  refine wp_seq (wp_seq (jX [0, 1, 2, 3] (jQ [(0, 11, iv (i : Int)), (1, 12, .slice s1.A s1.n s1.c), (2, 13, iv (s1.n : Int)), (3, 14, .bool (decide ((i : Int) < (s1.n : Int))))] ha fun a ha => ?_)))
  refine jY (jJ ?_)
  by_cases c2 : (i : Int) < (s1.n : Int)
  ·
   have hlt : i < b.length := by have := c2; omega
   obtain ⟨z, hz⟩ : ∃ z, b[i]? = some z := ⟨_, List.getElem?_eq_getElem hlt⟩;obtain ⟨sb1, _, _, hsb1⟩ := RdProg.body h1 hS hz;obtain ⟨sb2, _, _, hsb2⟩ := RdProg.body h2 hS hz;refine jV ha rfl (decide_eq_true c2) ?_;refine wp_skip (jJ (wp_seq (wp_block (wp_seq (xY 8 10 hS fun w hS => ?_)))));refine jZ (k := 8) [(0, 17, .slice s1.A s1.n s1.c), (1, 18, iv (i : Int))] ha (.inr hS) fun a ha => ?_;refine yY 2 (.pointer (some ⟨bk s1, of_ s1 + i * 1, none⟩)) ha (kQ (s := s1) (el := 109) (sz := 1) (j := i) ha (yH (t := 33) (x := 17) (y := 18) (d := 19)) rfl rfl (by kernel_rfl) (by kernel_rfl) (hA1 (by omega)) (by omega)) (.inr hS) fun a ha => ?_;refine zW 3 (.slice sb1.A sb1.n sb1.c) ha (zU ha (zV (t := 109) (x := 19) (d := 20) (ty := 109)) rfl (by kernel_rfl) (fun w' hw => by rw [Nat.mul_one]; exact (hsb1 w' hw).1)) hS fun a ha => ?_;refine jZ (k := 4) [(4, 21, .slice s2.A s2.n s2.c), (5, 22, iv (i : Int))] ha (.inr hS) fun a ha => ?_;refine yY 6 (.pointer (some ⟨bk s2, of_ s2 + i * 1, none⟩)) ha (kQ (s := s2) (el := 109) (sz := 1) (j := i) ha (yH (t := 33) (x := 21) (y := 22) (d := 23)) rfl rfl (by kernel_rfl) (by kernel_rfl) (hA2 (by omega)) (by omega)) (.inr hS) fun a ha => ?_;refine zW 7 (.slice sb2.A sb2.n sb2.c) ha (zU ha (zV (t := 109) (x := 23) (d := 24) (ty := 109)) rfl (by kernel_rfl) (fun w' hw => by rw [Nat.mul_one]; exact (hsb2 w' hw).1)) hS fun a ha => ?_;refine jU 8 (xJ 25 (vs := [.slice sb1.A sb1.n sb1.c, .slice sb2.A sb2.n sb2.c]) ha (eq_steps hS (fun w h => (hsb1 w h).2) (fun w h => (hsb2 w h).2) (hlen z (List.mem_of_getElem? hz))) fun v3 w a hp4 ha => ?_);obtain ⟨rfl, hS⟩ := hp4;refine xX (jZ (k := 0) [(9, 26, .bool false)] ha (.inl (by kernel_rfl)) fun a ha => ?_);refine qU (jJ ?_);refine jW ha rfl rfl ?_;refine wp_skip (in_n (jJ (jX [0, 1, 2] (jQ [(0, 15, iv (i : Int))] ha fun a ha => ?_))));refine zZ 16 ((i : Int) + 1) ha fun a ha => ?_;refine jQ [(2, 5, iv ((i : Int) + 1))] ha fun a ha => ?_;refine jY (jJ ?_);exact ⟨_, by omega, i + 1, rfl, by omega, ha.keeps [0, 1, 5] _ rfl, hS⟩
  refine jW ha rfl (decide_eq_false c2) ?_
  refine wp_exit (xW (xW (in_x (jJ (wp_seq (jX [0] (jQ [(0, 4, .bool true)] ha fun a ha => ?_)))))))
  refine jY (jJ (wp_ret (qG ha (by kernel_rfl) (xG (t := 4) ha rfl) ?_)))
  exact ⟨rfl, hS⟩
 exact absurd (by rw [hn1, hn2]) c1
theorem code20 : Try.f20.body = some (Code.seq (cr Try.f20 0 false) (Code.seq (Code.seq (cr Try.f20 1 false) (Code.cond (Operand.tmp 10) (Code.seq (cr Try.f20 2 false) Code.ret) Code.skip)) (Code.seq (cr Try.f20 3 false) Code.ret))) := by kernel_rfl
theorem eq_prog {w0 w : World} {Rs : List Asn} {b : List (List Stp)} {s1 s2 : Sl} {sbs1 sbs2 : List Sl} (hS : Sat w0 w Rs) (h1 : Keeps w0 Rs (fun w => RdProg w s1 sbs1 b)) (h2 : Keeps w0 Rs (fun w => RdProg w s2 sbs2 b)) (hlb : b.length ≤ 2000000) (hlen : ∀ z ∈ b, z.length ≤ 2000000) :
  Calls Try.prog 20 #[.agg #[.slice s1.A s1.n s1.c], .agg #[.slice s2.A s2.n s2.c]] w (Ret fun r w' => r = .bool true ∧ Sat w0 w' Rs) := by
 refine enter (n := 11) Try.func20 code20 (by kernel_rfl) (Nat.le_of_ble_eq_true rfl) (fun a ha => ?_)
 replace ha : Has 11 [(0, .agg #[.slice s1.A s1.n s1.c]), (1, .agg #[.slice s2.A s2.n s2.c])] a := ha
 refine wp_seq (jX [0, 1, 2] (jK (qV 2 [.slice s1.A s1.n s1.c] 35 (ptr · 0) ha hS fun b1 w a hb2 hS ha => ?_)))
 refine jK (qV 3 [.slice s2.A s2.n s2.c] 35 (ptr · 0) ha hS fun b3 w a hb4 hS ha => ?_)
 refine jQ [(2, 4, .bool false)] ha fun a ha => ?_
 refine jY (jJ (wp_seq (wp_seq (jX [0, 1, 2, 3, 4, 5] (jQ [(0, 5, ptr b1 0)] ha fun a ha => ?_)))))
 refine qQ (d := 6) (b := b1) (j := 0) ha (hS.blk 1 rfl) rfl fun a ha => ?_
 refine jQ [(2, 7, ptr b3 0)] ha fun a ha => ?_
 refine qQ (d := 8) (b := b3) (j := 0) ha (hS.blk 0 rfl) rfl fun a ha => ?_
 refine jK (xJ 9 (vs := [.slice s1.A s1.n s1.c, .slice s2.A s2.n s2.c]) ha (eq_rows hS (h1.more [_, _]) (h2.more [_, _]) hlb hlen) fun v5 w a hp6 ha => ?_)
 obtain ⟨rfl, hS⟩ := hp6
 refine jQ [(5, 10, .bool false)] ha fun a ha => ?_
 refine jY (jJ ?_)
 refine jW ha rfl rfl ?_
 refine wp_skip (jJ (wp_seq (jX [0] (jQ [(0, 4, .bool true)] ha fun a ha => ?_))))
 refine jY (jJ (wp_ret (qG ha (by kernel_rfl) (xG (t := 4) ha rfl) ?_)))
 exact ⟨rfl, Sat.rest [_, _] hS⟩
abbrev rn (l : List (List ST)) (f arg fuel : Int) : RunR := runS (PL l) 0 f arg fuel
abbrev MO (b : Nat) (pv : Sl) (fuel made shared depth deepest : Int) (tr ow ca pa re : Sl) (bp : Nat) (k v : Int) : Asn := SX.blk b [.slice pv.A pv.n pv.c, .int .i64 fuel, .int .i64 made, .int .i64 shared, .int .i64 depth, .int .i64 deepest, .slice tr.A tr.n tr.c, .slice ow.A ow.n ow.c, .slice ca.A ca.n ca.c, .slice pa.A pa.n pa.c, .slice re.A re.n re.c, .map (some bp), .int .i64 k, .int .i64 v, .slice tr.A tr.n tr.c, .int .i64 made] 105
section
variable {w0 w : World} {Rs : List Asn} {s : Sl} {l : List (List ST)} {f arg fuel shared : Int}
theorem ranFrom_sat (hS : Sat w0 w Rs) (hr : RdP w s l) (ha : askB l f arg fuel = true) :
  Calls Try.prog 104 #[.agg #[.slice s.A s.n s.c], .int .i64 f, .int .i64 arg, .int .i64 fuel, .int .i64 shared] w (Ret fun r w' => ∃ bm : Nat, r = .tuple #[.pointer (some ⟨bm, 0, none⟩), .bool true] ∧ Sat w0 w' (mchO bm s fuel (runS (PL l) shared f arg fuel) :: Rs)) := by
 have key : ∀ r w', (∃ bm : Nat, r = Value.tuple #[.pointer (some ⟨bm, 0, none⟩), .bool true] ∧ Sat w w' [mchO bm s fuel (runS (PL l) shared f arg fuel)]) → ∃ bm : Nat, r = Value.tuple #[.pointer (some ⟨bm, 0, none⟩), .bool true] ∧ Sat w0 w' (mchO bm s fuel (runS (PL l) shared f arg fuel) :: Rs) := by
  rintro r w' ⟨bm, rfl, h⟩
  exact ⟨bm, rfl, hS.comp h⟩
 cases hres : callS (PL l) fuel 8 (MS.start shared) f arg none 0 false with
 | done m1 f1 o1 =>
  refine (ranFrom_done w s l f arg fuel shared hr.len hr.rd hr.le ha m1 f1 o1 hres).mono fun e w' h => ?_
  cases e with
  | returned r => exact key r w' h
  | _ => exact h.elim
 | spent m1 =>
  refine (ranFrom_spent w s l f arg fuel shared hr.len hr.rd hr.le ha m1 hres).mono fun e w' h => ?_
  cases e with
  | returned r => exact key r w' h
  | _ => exact h.elim
theorem ranFrom_no (hS : Sat w0 w Rs) (hr : RdP w s l) (ha : askB l f arg fuel = false) :
  Calls Try.prog 104 #[.agg #[.slice s.A s.n s.c], .int .i64 f, .int .i64 arg, .int .i64 fuel, .int .i64 shared] w (Ret fun r w' => r = .tuple #[.pointer none, .bool false] ∧ Sat w0 w' Rs) := by
 refine (ranFrom_bad w s l f arg fuel shared hr.len hr.rd hr.le ha).mono fun e w' h => ?_
 cases e with
 | returned r => exact ⟨h.1, hS.comp (Ps := []) h.2⟩
 | _ => exact h.elim
theorem lift0 {F : Nat} {args : Array Value} {φ : Value → Prop} (hS : Sat w0 w Rs) (h : Calls Try.prog F args w (Ret fun r w' => φ r ∧ Sat w w' [])) : Calls Try.prog F args w (Ret fun r w' => φ r ∧ Sat w0 w' Rs) := by
 refine h.mono fun e w' h => ?_
 cases e with
 | returned r => exact ⟨h.1, hS.comp (Ps := []) h.2⟩
 | _ => exact h.elim
theorem ask_parts (ha : askB l f arg fuel = true) : ProgOk (PL l) ∧ (0 ≤ f ∧ f < (PL l).length) ∧ (-32768 ≤ arg ∧ arg ≤ 32767) ∧ (0 ≤ fuel ∧ fuel ≤ 200) := by
 simp only [askB, Bool.and_eq_true] at ha
 obtain ⟨⟨⟨h1, h2⟩, h3⟩, h4⟩ := ha
 simp only [inB, numB, Bool.and_eq_true, decide_eq_true_eq] at h2 h3 h4
 exact ⟨progOk_of h1, by rw [PL_length]; omega, h3, h4⟩
theorem ask_sat (hS : Sat w0 w Rs) (hr : RdP w s l) (hf : Fits l) :
  Calls Try.prog 63 #[.agg #[.slice s.A s.n s.c], .int .i64 f, .int .i64 arg, .int .i64 fuel] w (Ret fun r w' => r = .bool (askB l f arg fuel) ∧ Sat w0 w' Rs) := by
 obtain ⟨sbs, hPr⟩ := rdProg_of (c := s.c) hr.rd
 rw [← hr.len] at hPr
 refine (q_ask (Sat.start w) (by rw [PL_length]; have := hf.len; omega) (hPr.keeps [])).mono fun e w' h => ?_
 cases e with
 | returned r =>
  refine ⟨?_, hS.comp (Ps := []) h.2⟩
  rw [h.1, progQ_PL, hr.len]
  rfl
 | _ => exact h.elim
theorem eqP_sat {t : Sl} (hS : Sat w0 w Rs) (hr : RdP w s l) (ht : RdP w t l) (hf : Fits l) :
    Calls Try.prog 20 #[.agg #[.slice s.A s.n s.c], .agg #[.slice t.A t.n t.c]] w (Ret fun r w' => r = .bool true ∧ Sat w0 w' Rs) := by
  obtain ⟨sbs1, h1⟩ := rdProg_of (c := s.c) hr.rd
  obtain ⟨sbs2, h2⟩ := rdProg_of (c := t.c) ht.rd
  rw [← hr.len] at h1
  rw [← ht.len] at h2
  refine (eq_prog (Sat.start w) (h1.keeps []) (h2.keeps []) (by rw [PL_length]; have := hf.len; omega) (fun z hz => ?_)).mono fun e w' h => ?_
  · obtain ⟨b, hb, rfl⟩ := List.mem_map.1 hz
    rw [List.length_map];have := hf.each b hb
    omega
  · cases e with
    | returned r => exact ⟨h.1, hS.comp (Ps := []) h.2⟩
    | _ => exact h.elim
end
theorem code65 : Try.f65.body = some (Code.seq (cr Try.f65 0 false) (Code.seq (cr Try.f65 1 false) Code.ret)) := by kernel_rfl
theorem ran_sat0 {w0 : World} {s : Sl} {l : List (List ST)} {f arg fuel : Int} (hr : RdP w0 s l) (hask : askB l f arg fuel = true) :
  Calls Try.prog 65 #[.agg #[.slice s.A s.n s.c], iv f, iv arg, iv fuel] w0 (Ret fun r w' => ∃ bm : Nat, r = .tuple #[.pointer (some ⟨bm, 0, none⟩), .bool true] ∧ Sat w0 w' [mchO bm s fuel (rn l f arg fuel)]) := by
 have hS : Sat w0 w0 [] := Sat.start w0
 refine enter (n := 17) Try.func65 code65 (by kernel_rfl) (Nat.le_of_ble_eq_true rfl) (fun a ha => ?_)
 replace ha : Has 17 [(0, .agg #[.slice s.A s.n s.c]), (1, iv f), (2, iv arg), (3, iv fuel)] a := ha
 refine wp_seq (jX [0, 1, 2] (jK (qV 4 [.slice s.A s.n s.c] 35 (ptr · 0) ha hS fun b1 w a hb2 hS ha => ?_)))
 refine jQ [(1, 8, .pointer none), (2, 9, .bool false)] ha fun a ha => ?_
 refine jY (jJ (wp_seq (jX [0, 1, 2, 3, 4, 5, 6, 7, 8] (zY 10 ha (hS.blk 0 rfl) fun a ha => ?_))))
 refine jQ [(1, 11, iv f), (2, 12, iv arg), (3, 13, iv fuel)] ha fun a ha => ?_
 refine jK (xJ 14 (vs := [.agg #[.slice s.A s.n s.c], iv f, iv arg, iv fuel, iv 0]) ha (ranFrom_sat hS (hr.sat hS) hask) fun v3 w a hp4 ha => ?_)
 obtain ⟨bm1, rfl, hS⟩ := hp4
 refine jQ [(5, 15, ptr bm1 0), (6, 16, .bool true), (7, 8, ptr bm1 0), (8, 9, .bool true)] ha fun a ha => ?_
 refine jY (jJ (wp_ret (yV ha (by kernel_rfl) (xG (t := 8) ha rfl) (xG (t := 9) ha rfl) ?_)))
 exact ⟨bm1, rfl, hS.pickN 2 [0]⟩
theorem ran_no0 {w0 : World} {s : Sl} {l : List (List ST)} {f arg fuel : Int} (hr : RdP w0 s l) (hask : askB l f arg fuel = false) :
  Calls Try.prog 65 #[.agg #[.slice s.A s.n s.c], iv f, iv arg, iv fuel] w0 (Ret fun r w' => r = .tuple #[.pointer none, .bool false] ∧ Sat w0 w' []) := by
 have hS : Sat w0 w0 [] := Sat.start w0
 refine enter (n := 17) Try.func65 code65 (by kernel_rfl) (Nat.le_of_ble_eq_true rfl) (fun a ha => ?_)
 replace ha : Has 17 [(0, .agg #[.slice s.A s.n s.c]), (1, iv f), (2, iv arg), (3, iv fuel)] a := ha
 refine wp_seq (jX [0, 1, 2] (jK (qV 4 [.slice s.A s.n s.c] 35 (ptr · 0) ha hS fun b1 w a hb2 hS ha => ?_)))
 refine jQ [(1, 8, .pointer none), (2, 9, .bool false)] ha fun a ha => ?_
 refine jY (jJ (wp_seq (jX [0, 1, 2, 3, 4, 5, 6, 7, 8] (zY 10 ha (hS.blk 0 rfl) fun a ha => ?_))))
 refine jQ [(1, 11, iv f), (2, 12, iv arg), (3, 13, iv fuel)] ha fun a ha => ?_
 refine jK (xJ 14 (vs := [.agg #[.slice s.A s.n s.c], iv f, iv arg, iv fuel, iv 0]) ha (ranFrom_no hS (hr.sat hS) hask) fun v3 w a hp4 ha => ?_)
 obtain ⟨rfl, hS⟩ := hp4
 refine jQ [(5, 15, .pointer none), (6, 16, .bool false), (7, 8, .pointer none), (8, 9, .bool false)] ha fun a ha => ?_
 refine jY (jJ (wp_ret (yV ha (by kernel_rfl) (xG (t := 8) ha rfl) (xG (t := 9) ha rfl) ?_)))
 exact ⟨rfl, Sat.rest [_] hS⟩
theorem ran_sat {w0 w : World} {Rs : List Asn} {s : Sl} {l : List (List ST)} {f arg fuel : Int} (hS : Sat w0 w Rs) (hr : RdP w s l) (hask : askB l f arg fuel = true) :
  Calls Try.prog 65 #[.agg #[.slice s.A s.n s.c], iv f, iv arg, iv fuel] w (Ret fun r w' => ∃ bm : Nat, r = .tuple #[.pointer (some ⟨bm, 0, none⟩), .bool true] ∧ Sat w0 w' (mchO bm s fuel (rn l f arg fuel) :: Rs)) :=
 (ran_sat0 hr hask).mono fun e w' h => by
  cases e with
  | returned r => obtain ⟨bm, h1, h2⟩ := h; exact ⟨bm, h1, hS.comp h2⟩
  | _ => exact h.elim
theorem ran_no {w0 w : World} {Rs : List Asn} {s : Sl} {l : List (List ST)} {f arg fuel : Int} (hS : Sat w0 w Rs) (hr : RdP w s l) (hask : askB l f arg fuel = false) :
  Calls Try.prog 65 #[.agg #[.slice s.A s.n s.c], iv f, iv arg, iv fuel] w (Ret fun r w' => r = .tuple #[.pointer none, .bool false] ∧ Sat w0 w' Rs) := lift0 hS (ran_no0 hr hask)
end Go.Proofs.Ytjkoibfkklhaiaa.G
namespace Go.Proofs.Ytjkoibfkklhaiaa.SX
open Go.RowKit Go.Proofs.Ytjkoibfkklhaiaa.G Go.Proofs.YtjkoibfkklhaiaaW.PrintWords Go.Proofs.YtjkoibfkklhaiaaW.PrintLast Go.Proofs.YtjkoibfkklhaiaaW.PrintMore
def Brief (m : MS) : Prop := m.trace.length ≤ 1000 ∧ 0 ≤ m.made ∧ m.made ≤ 200
theorem OkM.brief {fuel : Int} {m : MS} {x : Nat} (h : OkM fuel m x) : Brief m := by
 have := h.bnd
 have := h.made0
 have := h.made1
 have := h.fuel1
 unfold Brief
 omega
def CallSp (n : Nat) (fuel : Int) (call : CallT) : Prop := ∀ (m : MS) (fn arg : Int) (p : Option FS) (o : Int) (dfr : Bool) (m' : MS) (x : Nat), OkM fuel m (x + 2) → 0 ≤ fn → fn < n → call m fn arg p o dfr = .spent m' → Brief m'
def RB.goes : RB → Bool
 | .spent _ => false
 | .go _ _ _ _ => true
theorem stepS_go {call : CallT} {m : MS} {f : FS} {p : Option FS} {o : Int} {s : Stp} (hk : ¬ s.k = 4) : (stepS call m f p o s).goes = true := by
 unfold stepS
 by_cases h1 : s.k = 1
 · rw [if_pos h1]; rfl
 rw [if_neg h1]
 by_cases h2 : s.k = 2
 · rw [if_pos h2]; rfl
 rw [if_neg h2]
 by_cases h3 : s.k = 3
 · rw [if_pos h3]; rfl
 rw [if_neg h3]
 by_cases h4 : s.k = 4
 · exact absurd h4 hk
 rw [if_neg h4]
 by_cases h5 : s.k = 5
 · rw [if_pos h5]; rfl
 rw [if_neg h5]
 by_cases h6 : s.k = 6
 · rw [if_pos h6]; rfl
 rw [if_neg h6]
 by_cases h7 : s.k = 7
 · rw [if_pos h7]; rfl
 rw [if_neg h7]
 by_cases h8 : s.k = 8
 · rw [if_pos h8]; rfl
 rw [if_neg h8]
 by_cases h9 : s.k = 9
 · rw [if_pos h9]; rfl
 rw [if_neg h9]
 by_cases h10 : s.k = 10
 · rw [if_pos h10]; rfl
 rw [if_neg h10]
 by_cases h12 : s.k = 12
 · rw [if_pos h12]; rfl
 rw [if_neg h12]
 by_cases h13 : s.k = 13
 · rw [if_pos h13]; rfl
 rw [if_neg h13]
 rfl
theorem stepS_sp {n : Nat} {fuel : Int} {call : CallT} (hc : CallSp n fuel call) {m : MS} {f : FS} {p : Option FS} {o : Int} {s : Stp} {m' : MS} {x : Nat}
    (hs : StpOk n s) (hm : OkM fuel m (x + 3)) (h : stepS call m f p o s = .spent m') : Brief m' := by
  unfold stepS at h
  by_cases hk4 : s.k = 4
  · have hf := hs.f (.inl hk4)
    rw [if_neg (by omega), if_neg (by omega), if_neg (by omega), if_pos hk4] at h
    split at h
    · rename_i m1 hcall
      simp only [RB.spent.injEq] at h;subst h;exact hc _ _ _ _ _ _ _ (x + 1) hm hf.1 hf.2 hcall
    · dsimp only at h
      split at h
      · cases h
      · cases h
  · exfalso
    have h9 := stepS_go (call := call) (m := m) (f := f) (p := p) (o := o) hk4;unfold stepS at h9;rw [h] at h9;cases h9
theorem bodyS_sp {n : Nat} {fuel : Int} {call : CallT} (hc : CallOk n fuel call) (hcs : CallSp n fuel call) {steps : List Stp} (hs : ∀ s ∈ steps, StpOk n s) {p : Option FS} {x : Nat} : ∀ (k : Nat) (m : MS) (f : FS) (o : Int) (at_ : Nat) {m' : MS},
    OkM fuel m (2 * f.runs.length + x) → OkF n m f → bodyS fuel call steps p k m f o at_ = .spent m' → Brief m' := by
  intro k
  induction k with
  | zero => intro m f o at_ m' hm _ h; simp only [bodyS, R3.spent.injEq] at h; subst h; exact hm.brief
  | succ k ih =>
    intro m f o at_ m' hm hf h;simp only [bodyS] at h
    split at h
    · cases h
    · rename_i s hst
      have hso := hs s (List.mem_of_getElem? hst)
      split at h
      · simp only [R3.spent.injEq] at h; subst h; exact hm.brief
      · rename_i hne
        have hm1 := hm.step hne f.fn at_;have hf1 := hf.grew (Grew.step m f.fn at_)
        split at h
        · exact ih _ _ _ _ (hm1.less (by omega)) hf1 h
        · split at h
          · rename_i m2 hst
            simp only [R3.spent.injEq] at h;subst h;exact stepS_sp hcs hso hm1 hst
          · cases h
          · rename_i hst
            obtain ⟨h1, h2, h3⟩ := stepS_ok hc hso hm1 hf1 hst;exact ih _ _ _ _ h1 h3 h
theorem runsS_sp {n : Nat} {fuel : Int} {call : CallT} (hc : CallOk n fuel call) (hcs : CallSp n fuel call) {p : Option FS} {x : Nat} : ∀ (k : Nat) (m : MS) (f : FS) (o : Int) {m' : MS}, f.runs.length = k →
    OkM fuel m (2 * f.runs.length + x) → OkF n m f → runsS call k m f p o = .spent m' → Brief m' := by
  intro k
  induction k with
  | zero => intro m f o m' hk hm hf h; simp only [runsS] at h; cases h
  | succ k ih =>
    intro m f o m' hk hm hf h;simp only [runsS] at h
    split at h
    · cases h
    · rename_i z hz
      have hmem := List.mem_of_getLast? hz;have hfn := hf.runs z hmem;have hdl : f.runs.dropLast.length = k := by rw [List.length_dropLast]; omega
      split at h
      · rename_i m1 hcall
        simp only [R3.spent.injEq] at h;subst h;exact hcs _ _ _ _ _ _ _ (2 * k + x) (hm.less (by omega)) hfn.1 hfn.2 hcall
      · rename_i m1 d o1 hcall
        obtain ⟨h1, h2, h3⟩ := hc _ _ _ _ _ _ _ _ _ (2 * k + x) (hm.less (by omega)) hfn.1 hfn.2 hcall
        have hf1 : OkF n m1 { f with runs := f.runs.dropLast, r1 := o1 } :=
          have g := hf.grew h2
          ⟨g.id0, g.id1, g.fn0, g.fn1, g.en, g.pan, fun z hz => g.runs z (List.dropLast_subset _ hz)⟩
        obtain ⟨g1, g2, g3⟩ := behind_ok h1 hf1 h3;have hr : (yK { f with runs := f.runs.dropLast, r1 := o1 } d).runs = f.runs.dropLast := by unfold yK; (repeat' split) <;> rfl
        exact ih _ _ _ (by rw [hr]; exact hdl) (by rw [hr, hdl]; exact g1) g3 h
theorem callS_sp {P : List (List Stp)} (hP : ProgOk P) (fuel : Int) : ∀ d, CallSp P.length fuel (callS P fuel d) := by
  intro d
  induction d with
  | zero => intro m fn arg p o dfr m' x hm _ _ h; simp only [callS, R3.spent.injEq] at h; subst h; exact hm.brief
  | succ d ih =>
    intro m fn arg p o dfr m' x hm h0 h1 h;have ihok := callS_ok hP fuel d;simp only [callS] at h
    have hsteps : ∀ s ∈ P.getD fn.toNat [], StpOk P.length s := by
      have hlt : fn.toNat < P.length := by omega
      rw [List.getD_eq_getElem?_getD, List.getElem?_eq_getElem hlt];exact hP.steps _ (List.getElem_mem hlt)
    have hme : OkM fuel (m.enter fn arg (parId p) dfr) (x + 1) := OkM.enter hm _ _ _ _
    have hfe : OkF P.length (m.enter fn arg (parId p) dfr) (m.frame fn arg dfr) := by
      refine ⟨?_, ?_, h0, h1, .inl rfl, fun e => by simp [MS.frame] at e, fun z hz => by simp [MS.frame] at hz⟩
      · simp only [MS.frame]; omega
      · simp only [MS.frame, MS.enter, MS.tell, List.length_append, List.length_cons, List.length_nil]; omega
    split at h
    · rename_i m1 hb
      simp only [R3.spent.injEq] at h;subst h;exact bodyS_sp (x := x + 1) ihok ih hsteps _ _ _ _ _ (by simpa [MS.frame] using hme) hfe hb
    · rename_i m1 f1 o1 hb
      obtain ⟨h2, h3, h4⟩ := bodyS_ok (x := x + 1) ihok hsteps _ _ _ _ _ (by simpa [MS.frame] using hme) hfe hb
      split at h
      · rename_i m2 hr
        simp only [R3.spent.injEq] at h;subst h;exact runsS_sp ihok ih _ _ _ _ rfl h2 h4 hr
      · cases h
theorem runOf_tr (m : MS) (f : FS) (o : Int) : (runOf (.done m f o)).m.trace = m.trace := by
 unfold runOf
 dsimp only
 split <;> rfl
theorem runOf_made (m : MS) (f : FS) (o : Int) : (runOf (.done m f o)).m.made = m.made := by
 unfold runOf
 dsimp only
 split <;> rfl
theorem runOf_Brief {P : List (List Stp)} (hP : ProgOk P) {fuel shared f arg : Int} (h0 : 0 ≤ f) (h1 : f < P.length) (hf : 0 ≤ fuel ∧ fuel ≤ 200) : Brief (runS P shared f arg fuel).m := by
 unfold runS
 cases hr : callS P fuel 8 (MS.start shared) f arg none 0 false with
 | spent m => exact callS_sp hP fuel 8 _ _ _ _ _ _ _ 10 (start_ok shared hf.1 hf.2) h0 h1 hr
 | done m1 f1 o1 => unfold Brief; rw [runOf_tr, runOf_made]; exact (callS_ok hP fuel 8 _ _ _ _ _ _ _ _ _ 10 (start_ok shared hf.1 hf.2) h0 h1 hr).1.brief
def R3.m : R3 → MS
 | .spent m => m
 | .done m _ _ => m
def RB.m : RB → MS
 | .spent m => m
 | .go m _ _ _ => m
def PlA (P : List (List Stp)) (q : Int × Int) : Prop := ∃ (g a : Nat) (b : List Stp), q = ((g : Int), (a : Int)) ∧ P[g]? = some b ∧ a < b.length
structure POk (P : List (List Stp)) (m : MS) : Prop where
 pl : ∀ q ∈ m.places, PlA P q
 le : (m.places.length : Int) ≤ m.made
def FOk (n : Nat) (fn : Int) (f : FS) : Prop := f.fn = fn ∧ ∀ z ∈ f.runs, 0 ≤ z.1
theorem POk.as {P : List (List Stp)} {m m' : MS} (h : POk P m) (e : m'.places = m.places) (k : m'.made = m.made) : POk P m' := ⟨by rw [e]; exact h.pl, by rw [e, k]; exact h.le⟩
def CallP (P : List (List Stp)) (call : CallT) : Prop := ∀ (m : MS) (fn arg : Int) (p : Option FS) (o : Int) (dfr : Bool), 0 ≤ fn → POk P m → POk P (call m fn arg p o dfr).m
theorem FOk.as {n : Nat} {fn : Int} {f f' : FS} (h : FOk n fn f) (h1 : f'.fn = f.fn) (h2 : f'.runs = f.runs) : FOk n fn f' := ⟨h1.trans h.1, by rw [h2]; exact h.2⟩
theorem recoverS_P {P : List (List Stp)} {m : MS} {f : FS} {p : Option FS} {r : Int} (h : POk P m) : POk P (yZ m f p r).1 := by
  unfold yZ
  split
  · split
    · exact h.as rfl rfl
    · exact h
  · exact h
theorem recoverS_F {n : Nat} {fn : Int} {m : MS} {f : FS} {p : Option FS} {r : Int} (h : FOk n fn f) : FOk n fn (yZ m f p r).2 := by
  unfold yZ
  split
  · split
    · exact h.as rfl rfl
    · exact h.as rfl rfl
  · exact h.as rfl rfl
def RB.ok (P : List (List Stp)) (n : Nat) (fn : Int) : RB → Prop
 | .spent m => POk P m
 | .go m f _ _ => POk P m ∧ FOk n fn f
theorem stepS_P {P : List (List Stp)} {n : Nat} {fn : Int} {call : CallT} (hc : CallP P call) {m : MS} {f : FS} {p : Option FS} {o : Int} {s : Stp} (hs : StpOk n s) (h : POk P m) (hf : FOk n fn f) : (stepS call m f p o s).ok P n fn := by
  unfold stepS
  by_cases h1 : s.k = 1
  · rw [if_pos h1]; exact ⟨h, hf.as rfl rfl⟩
  rw [if_neg h1]
  by_cases h2 : s.k = 2
  · rw [if_pos h2]; exact ⟨h, hf.as rfl rfl⟩
  rw [if_neg h2]
  by_cases h3 : s.k = 3
  · rw [if_pos h3]; exact ⟨h.as rfl rfl, hf⟩
  rw [if_neg h3]
  by_cases h4 : s.k = 4
  · rw [if_pos h4]
    have k1 := hc m s.a (f.get s.b) (some f) f.r1 false (hs.f (.inl h4)).1 h;cases hcall : call m s.a (f.get s.b) (some f) f.r1 false with
    | spent m1 => rw [hcall] at k1; exact k1
    | done m1 d o1 =>
      rw [hcall] at k1
      dsimp only
      by_cases hd : d.en = 1
      · rw [if_pos hd]; exact ⟨k1, hf.as rfl rfl⟩
      · rw [if_neg hd]; exact ⟨k1, hf.as rfl rfl⟩
  rw [if_neg h4]
  by_cases h5 : s.k = 5
  · rw [if_pos h5]
    refine ⟨h.as rfl rfl, hf.1, fun z hz => ?_⟩
    rcases List.mem_append.1 hz with hz | hz
    · exact hf.2 z hz
    · rw [List.mem_singleton.1 hz]; exact (hs.f (.inr h5)).1
  rw [if_neg h5]
  by_cases h6 : s.k = 6
  · rw [if_pos h6]; exact ⟨h.as rfl rfl, hf.as rfl rfl⟩
  rw [if_neg h6]
  by_cases h7 : s.k = 7
  · rw [if_pos h7]; exact ⟨recoverS_P h, recoverS_F hf⟩
  rw [if_neg h7]
  by_cases h8 : s.k = 8
  · rw [if_pos h8]; exact ⟨h, hf.as rfl rfl⟩
  rw [if_neg h8]
  by_cases h9 : s.k = 9
  · rw [if_pos h9]; exact ⟨h, hf⟩
  rw [if_neg h9]
  by_cases h10 : s.k = 10
  · rw [if_pos h10]; exact ⟨h, hf.as rfl rfl⟩
  rw [if_neg h10]
  by_cases h12 : s.k = 12
  · rw [if_pos h12]; exact ⟨h.as rfl rfl, hf⟩
  rw [if_neg h12]
  by_cases h13 : s.k = 13
  · rw [if_pos h13]; exact ⟨h, hf.as rfl rfl⟩
  rw [if_neg h13]
  exact ⟨h, hf⟩
def R3.ok (P : List (List Stp)) (n : Nat) (fn : Int) : R3 → Prop
 | .spent m => POk P m
 | .done m f _ => POk P m ∧ FOk n fn f
theorem bodyS_P {P : List (List Stp)} {n : Nat} {g : Nat} {fuel : Int} {call : CallT} (hc : CallP P call) {steps : List Stp} (hst : P[g]? = some steps) (hs : ∀ s ∈ steps, StpOk n s) {p : Option FS} : ∀ (k : Nat) (m : MS) (f : FS) (o : Int) (at_ : Nat), POk P m → FOk n (g : Int) f → (bodyS fuel call steps p k m f o at_).ok P n (g : Int) := by
  intro k
  induction k with
  | zero => intro m f o at_ h hf; exact h
  | succ k ih =>
    intro m f o at_ h hf;simp only [bodyS]
    split
    · exact ⟨h, hf⟩
    · rename_i s hat
      split
      · exact h
      · have h1 : POk P (m.step f.fn at_) := by
          refine ⟨fun q hq => ?_, by simp only [MS.step, List.length_append, List.length_cons, List.length_nil]; have := h.le; omega⟩
          rcases List.mem_append.1 hq with hq | hq
          · exact h.pl q hq
          · rw [List.mem_singleton.1 hq, hf.1]; exact ⟨g, at_, steps, rfl, hst, (List.getElem?_eq_some_iff.1 hat).1⟩
        split
        · exact ih _ _ _ _ h1 hf
        · have h2 := stepS_P (p := p) (o := o) hc (hs s (List.mem_of_getElem? hat)) h1 hf
          split
          · rename_i hq; rw [hq] at h2; exact h2
          · rename_i hq; rw [hq] at h2; exact h2
          · rename_i hq; rw [hq] at h2; exact ih _ _ _ _ h2.1 h2.2
theorem behindM_P {P : List (List Stp)} {m : MS} {f d : FS} (h : POk P m) : POk P (yW m f d) := by
  unfold yW
  split
  · split
    · exact h.as rfl rfl
    · split
      · exact h.as rfl rfl
      · exact h
  · exact h
theorem behindF_F {n : Nat} {fn : Int} {f d : FS} (h : FOk n fn f) : FOk n fn (yK f d) := by
 unfold yK
 (repeat' split) <;> exact h.as rfl rfl
theorem runsS_P {P : List (List Stp)} {n : Nat} {fn : Int} {call : CallT} (hc : CallP P call) {p : Option FS} : ∀ (k : Nat) (m : MS) (f : FS) (o : Int), POk P m → FOk n fn f → (runsS call k m f p o).ok P n fn := by
  intro k
  induction k with
  | zero => intro m f o h hf; exact ⟨h, hf⟩
  | succ k ih =>
    intro m f o h hf;simp only [runsS]
    split
    · exact ⟨h, hf⟩
    · rename_i z hz
      have h1 := hc m z.1 z.2 (some { f with runs := f.runs.dropLast }) f.r1 true (hf.2 z (List.mem_of_getLast? hz)) h
      split
      · rename_i hq; rw [hq] at h1; exact h1
      · rename_i hq; rw [hq] at h1; exact ih _ _ _ (behindM_P h1) (behindF_F ⟨hf.1, fun z hz => hf.2 z (List.dropLast_subset _ hz)⟩)
theorem callS_P {P : List (List Stp)} (hP : ProgOk P) (fuel : Int) : ∀ d, CallP P (callS P fuel d) := by
  intro d
  induction d with
  | zero => intro m fn arg p o dfr _ h; exact h
  | succ d ih =>
    intro m fn arg p o dfr h0 h;simp only [callS];have hme : POk P (m.enter fn arg (parId p) dfr) := h.as rfl rfl;have hfe : FOk P.length (fn.toNat : Int) (m.frame fn arg dfr) := ⟨by simp only [MS.frame]; omega, fun z hz => by simp [MS.frame] at hz⟩
    have h1 : (bodyS fuel (callS P fuel d) (P.getD fn.toNat []) p (fuel - m.made).toNat.succ (m.enter fn arg (parId p) dfr) (m.frame fn arg dfr) o 0).ok P P.length (fn.toNat : Int) := by
      by_cases hlt : fn.toNat < P.length
      · have e : P.getD fn.toNat [] = P[fn.toNat] := by rw [List.getD_eq_getElem?_getD, List.getElem?_eq_getElem hlt]; rfl
        rw [e];exact bodyS_P ih (List.getElem?_eq_getElem hlt) (hP.steps _ (List.getElem_mem hlt)) _ _ _ _ _ hme hfe
      · have e : P.getD fn.toNat [] = [] := by rw [List.getD_eq_getElem?_getD, List.getElem?_eq_none (by omega)]; rfl
        rw [e];simp only [bodyS, List.getElem?_nil];exact ⟨hme, hfe⟩
    split
    · rename_i hq; rw [hq] at h1; exact h1
    · rename_i m1 f1 o1 hq
      rw [hq] at h1;have h2 := runsS_P (p := p) ih f1.runs.length m1 f1 o1 h1.1 h1.2
      split
      · rename_i hq; rw [hq] at h2; exact h2
      · rename_i m2 f2 o2 hq
        rw [hq] at h2;exact POk.as (m := m2) h2.1 rfl rfl
theorem runOf_pl (m : MS) (f : FS) (o : Int) : (runOf (.done m f o)).m.places = m.places := by
 unfold runOf
 dsimp only
 split <;> rfl
theorem runOf_places {P : List (List Stp)} (hP : ProgOk P) {fuel shared f arg : Int} (h0 : 0 ≤ f) : (∀ q ∈ (runS P shared f arg fuel).m.places, PlA P q) ∧ ((runS P shared f arg fuel).m.places.length : Int) ≤ (runS P shared f arg fuel).m.made := by
 have h := callS_P hP fuel 8 (MS.start shared) f arg none 0 false h0 ⟨fun e he => by simp [MS.start] at he, Int.le_refl _⟩
 unfold runS
 cases hr : callS P fuel 8 (MS.start shared) f arg none 0 false with
 | spent m => rw [hr] at h; exact ⟨h.pl, h.le⟩
 | done m1 f1 o1 => rw [hr] at h; rw [runOf_pl, runOf_made]; exact ⟨h.pl, h.le⟩
theorem places_len {l : List (List ST)} {f arg fuel : Int} (ha : askB l f arg fuel = true) : (rn l f arg fuel).m.places.length ≤ 200 := by
 obtain ⟨hP, hf, _, hu⟩ := ask_parts ha
 have h1 := (runOf_places (P := PL l) hP (fuel := fuel) (shared := 0) (arg := arg) hf.1).2
 have h2 := (runOf_Brief (P := PL l) hP (shared := 0) (arg := arg) hf.1 hf.2 hu).2.2
 have h3 : (rn l f arg fuel).m.places.length = (runS (PL l) 0 f arg fuel).m.places.length := rfl
 omega
def ltP (x y : Int × Int) : Bool := decide (x.1 < y.1) || (decide (x.1 = y.1) && decide (x.2 < y.2))
theorem ltP_irr (x : Int × Int) : ltP x x = false := by unfold ltP; simp
theorem ltP_trans {x y z : Int × Int} (h : ltP x y = true) (k : ltP y z = true) : ltP x z = true := by
 simp only [ltP, Bool.or_eq_true, Bool.and_eq_true, decide_eq_true_eq] at h k ⊢
 omega
theorem ltP_tri {x y : Int × Int} (h : ltP x y = false) (hne : ¬ y = x) : ltP y x = true := by
 simp only [ltP, Bool.or_eq_false_iff, Bool.and_eq_false_iff, decide_eq_false_iff_not, Bool.or_eq_true, Bool.and_eq_true, decide_eq_true_eq] at h ⊢
 have : ¬ (y.1 = x.1 ∧ y.2 = x.2) := fun e => hne (Prod.ext e.1 e.2)
 omega
def Inc (l : List (Int × Int)) : Prop := l.Pairwise fun x y => ltP x y = true
theorem Inc.ext : ∀ {l k : List (Int × Int)}, Inc l → Inc k → (∀ x, x ∈ l ↔ x ∈ k) → l = k := by
  intro l
  induction l with
  | nil =>
    intro k _ _ h;cases k with
    | nil => rfl
    | cons y k => exact absurd ((h y).2 (by simp)) (by simp)
  | cons x l ih =>
    intro k hl hk h;cases k with
    | nil => exact absurd ((h x).1 (by simp)) (by simp)
    | cons y k =>
      obtain ⟨l1, l2⟩ := List.pairwise_cons.1 hl;obtain ⟨k1, k2⟩ := List.pairwise_cons.1 hk
      have hxy : x = y := by
        rcases List.mem_cons.1 ((h x).1 (by simp)) with e | e
        · exact e
        · rcases List.mem_cons.1 ((h y).2 (by simp)) with e2 | e2
          · exact e2.symm
          · have a := ltP_trans (l1 y e2) (k1 x e)
            rw [ltP_irr] at a; cases a
      subst hxy;refine congrArg _ (ih l2 k2 fun z => ⟨fun hz => ?_, fun hz => ?_⟩)
      · rcases List.mem_cons.1 ((h z).1 (List.mem_cons_of_mem _ hz)) with e | e
        · subst e; have a := l1 z hz; rw [ltP_irr] at a; cases a
        · exact e
      · rcases List.mem_cons.1 ((h z).2 (List.mem_cons_of_mem _ hz)) with e | e
        · subst e; have a := k1 z hz; rw [ltP_irr] at a; cases a
        · exact e
def lessN (l : List (Int × Int)) (x : Int × Int) : Nat := (l.takeWhile fun y => ltP y x).length
def putP (l : List (Int × Int)) (x : Int × Int) : List (Int × Int) := if l[lessN l x]? = some x then l else l.take (lessN l x) ++ [x] ++ l.drop (lessN l x)
theorem lessN_le (l : List (Int × Int)) (x : Int × Int) : lessN l x ≤ l.length := by unfold lessN; exact (List.takeWhile_sublist _).length_le
theorem lessN_take (l : List (Int × Int)) (x : Int × Int) : l.take (lessN l x) = l.takeWhile fun y => ltP y x := by
 unfold lessN
 conv => lhs; arg 2; rw [← List.takeWhile_append_dropWhile (p := fun y => ltP y x) (l := l)]
 rw [List.take_left']
 rfl
theorem lessN_drop (l : List (Int × Int)) (x : Int × Int) : l.drop (lessN l x) = l.dropWhile fun y => ltP y x := by
 unfold lessN
 conv => lhs; arg 2; rw [← List.takeWhile_append_dropWhile (p := fun y => ltP y x) (l := l)]
 rw [List.drop_left']
 rfl
theorem lessN_at {l : List (Int × Int)} {x : Int × Int} : ∀ {k : Nat}, (∀ j, j < k → ∃ y, l[j]? = some y ∧ ltP y x = true) → (∀ y, l[k]? = some y → ltP y x = false) → k ≤ l.length → lessN l x = k := by
 induction l with
 | nil => intro k _ _ hk; simp only [List.length_nil] at hk; simp [lessN]; omega
 | cons y l ih =>
  intro k h1 h2 h3
  cases k with
  | zero => have := h2 y rfl; unfold lessN; rw [List.takeWhile_cons_of_neg (p := fun y => ltP y x) (by rw [this]; decide)]; rfl
  | succ k =>
   obtain ⟨z, hz, hlt⟩ := h1 0 (by omega);simp only [List.getElem?_cons_zero, Option.some.injEq] at hz;subst hz;unfold lessN;rw [List.takeWhile_cons_of_pos (p := fun y => ltP y x) hlt, List.length_cons];have := ih (k := k) (fun j hj => by simpa using h1 (j + 1) (by omega)) (fun z hz => h2 z (by simpa using hz)) (by simpa using h3);unfold lessN at this;rw [this]
theorem putP_mem (l : List (Int × Int)) (x y : Int × Int) : y ∈ putP l x ↔ y ∈ l ∨ y = x := by
  unfold putP
  split
  · rename_i h
    exact ⟨.inl, fun e => e.elim id fun e => by rw [e]; exact List.mem_of_getElem? h⟩
  · conv => rhs; rw [← List.take_append_drop (lessN l x) l]
    simp only [List.mem_append, List.mem_singleton]
    constructor
    · rintro ((h | h) | h)
      · exact .inl (.inl h)
      · exact .inr h
      · exact .inl (.inr h)
    · rintro ((h | h) | h)
      · exact .inl (.inl h)
      · exact .inr h
      · exact .inl (.inr h)
theorem putP_inc {l : List (Int × Int)} (h : Inc l) (x : Int × Int) : Inc (putP l x) := by
  unfold putP
  split
  · exact h
  · rename_i hn
    have hall : ∀ y ∈ l.take (lessN l x), ltP y x = true := by
      rw [lessN_take]; intro y hy; exact List.all_eq_true.1 (List.all_takeWhile (l := l) (p := fun y => ltP y x)) y hy
    have hsp := List.pairwise_append.1 (show (l.take (lessN l x) ++ l.drop (lessN l x)).Pairwise _ by rw [List.take_append_drop]; exact h)
    have hrest : ∀ y ∈ l.drop (lessN l x), ltP x y = true := by
      cases hd : l.drop (lessN l x) with
      | nil => intro y hy; simp at hy
      | cons z t =>
        have hz : l[lessN l x]? = some z := by rw [← List.head?_drop, hd]; rfl
        have hzx : ltP z x = false := by
          have h9 := lessN_drop l x;rw [hd] at h9;have := List.head?_dropWhile_not (fun y => ltP y x) l;rw [← h9] at this
          simpa using this
        have hxz := ltP_tri hzx (fun e => hn (by rw [hz, e]));intro y hy
        rcases List.mem_cons.1 hy with e | e
        · rw [e]; exact hxz
        · have := hsp.2.1
          rw [hd] at this;exact ltP_trans hxz ((List.pairwise_cons.1 this).1 y e)
    rw [List.append_assoc];refine List.pairwise_append.2 ⟨hsp.1, List.pairwise_append.2 ⟨List.pairwise_singleton _ _, hsp.2.1, fun a ha b hb => ?_⟩, fun a ha b hb => ?_⟩
    · rw [List.mem_singleton.1 ha]; exact hrest b hb
    · rcases List.mem_append.1 hb with e | e
      · rw [List.mem_singleton.1 e]; exact hall a ha
      · exact hsp.2.2 a ha b e
theorem putP_len (l : List (Int × Int)) (x : Int × Int) : (putP l x).length ≤ l.length + 1 := by
 unfold putP
 split
 · omega
 · have := lessN_le l x; simp only [List.length_append, List.length_take, List.length_drop, List.length_cons, List.length_nil]; omega
theorem less_at {L : List (Int × Int)} {x : Int × Int} {k : Nat} (hk : k ≤ L.length) (h1 : ∀ j : Nat, j < k → ∃ y, L[j]? = some y ∧ ltP y x = true) (h2 : ∀ y, L[k]? = some y → ltP y x = false) : lessN L x = k := lessN_at h1 h2 hk
theorem put_at {L : List (Int × Int)} {x y : Int × Int} {k : Nat} (hk : k ≤ L.length) (h1 : ∀ j : Nat, j < k → ∃ y, L[j]? = some y ∧ ltP y x = true) (hy : L[k]? = some y) (h : (decide (y.1 = x.1) && decide (y.2 = x.2)) = true) : putP L x = L := by
 simp only [Bool.and_eq_true, decide_eq_true_eq] at h
 obtain rfl : y = x := Prod.ext h.1 h.2
 unfold putP
 rw [less_at hk h1 fun z hz => by rw [hy] at hz; obtain rfl := Option.some.inj hz; exact ltP_irr _, if_pos hy]
theorem put_new {L : List (Int × Int)} {x : Int × Int} {k : Nat} (hk : k ≤ L.length) (h1 : ∀ j : Nat, j < k → ∃ y, L[j]? = some y ∧ ltP y x = true) (h2 : ∀ y, L[k]? = some y → ltP y x = false ∧ (decide (y.1 = x.1) && decide (y.2 = x.2)) = false) : putP L x = L.take k ++ [x] ++ L.drop k := by
 unfold putP
 rw [less_at hk h1 fun z hz => (h2 z hz).1, if_neg]
 intro h
 have h3 := (h2 x h).2
 simp at h3
theorem less_next {L : List (Int × Int)} {x y : Int × Int} {k : Nat} (h1 : ∀ j : Nat, j < k → ∃ y, L[j]? = some y ∧ ltP y x = true) (hy : L[k]? = some y) (h : ltP y x = true) : ∀ j : Nat, j < k + 1 → ∃ y, L[j]? = some y ∧ ltP y x = true := fun j hj => by
 by_cases e : j = k
 · subst e; exact ⟨y, hy, h⟩
 · exact h1 j (by omega)
def madeP (out seen : List (Int × Int)) : List (Int × Int) := seen.foldl putP out
theorem madeP_inc : ∀ (s : List (Int × Int)) {o : List (Int × Int)}, Inc o → Inc (madeP o s) := by
 intro s
 induction s with
 | nil => intro o h; exact h
 | cons x s ih => intro o h; exact ih (putP_inc h x)
theorem madeP_mem : ∀ (s : List (Int × Int)) (o : List (Int × Int)) (y : Int × Int), y ∈ madeP o s ↔ y ∈ o ∨ y ∈ s := by
 intro s
 induction s with
 | nil => intro o y; simp [madeP]
 | cons x s ih => intro o y; rw [show madeP o (x :: s) = madeP (putP o x) s from rfl, ih, putP_mem, List.mem_cons, or_assoc]
theorem madeP_len : ∀ (s o : List (Int × Int)), (madeP o s).length ≤ o.length + s.length := by
 intro s
 induction s with
 | nil => intro o; simp [madeP]
 | cons x s ih => intro o; have := ih (putP o x); have := putP_len o x; rw [show madeP o (x :: s) = madeP (putP o x) s from rfl, List.length_cons]; omega
theorem madeP_take {s o : List (Int × Int)} {i : Nat} {x : Int × Int} (h : s[i]? = some x) : madeP o (s.take (i + 1)) = putP (madeP o (s.take i)) x := by
 unfold madeP; rw [List.take_add_one, h, List.foldl_append]; rfl
def rowPl (f n : Nat) : List (Int × Int) := (List.range n).map fun a : Nat => ((f : Int), (a : Int))
def uptoPl (l : List (List ST)) (f : Nat) : List (Int × Int) := (List.range f).flatMap fun g => rowPl g (l.getD g []).length
def plN (is : Int × Int → Bool) (l : List (List ST)) (f a : Nat) : List (Int × Int) := (uptoPl l f ++ rowPl f a).filter is
theorem plN_yes {is : Int × Int → Bool} {l : List (List ST)} {f a : Nat} (h : is ((f : Int), (a : Int)) = true) : plN is l f (a + 1) = plN is l f a ++ [((f : Int), (a : Int))] := by
 unfold plN rowPl; rw [List.range_succ, List.map_append, ← List.append_assoc, List.filter_append]; simp [h]
theorem plN_no {is : Int × Int → Bool} {l : List (List ST)} {f a : Nat} (h : is ((f : Int), (a : Int)) = false) : plN is l f (a + 1) = plN is l f a := by
 unfold plN rowPl; rw [List.range_succ, List.map_append, ← List.append_assoc, List.filter_append]; simp [h]
theorem plN_next {is : Int × Int → Bool} {l : List (List ST)} {f : Nat} {b : List ST} (h : l[f]? = some b) : plN is l f b.length = plN is l (f + 1) 0 := by
 unfold plN uptoPl; rw [List.range_succ, List.flatMap_append]; simp [rowPl, List.getD_eq_getElem?_getD, h]
theorem uptoPl_len {l : List (List ST)} (h8 : ∀ b ∈ l, b.length ≤ 8) : ∀ f : Nat, (uptoPl l f).length ≤ 8 * f := by
 intro f
 induction f with
 | zero => exact Nat.le_refl _
 | succ f ih =>
  have e : uptoPl l (f + 1) = uptoPl l f ++ rowPl f (l.getD f []).length := by unfold uptoPl; rw [List.range_succ, List.flatMap_append]; simp
  rw [e, List.length_append]
  have h : (l.getD f []).length ≤ 8 := by
   rw [List.getD_eq_getElem?_getD];cases hb : l[f]? with
   | none => exact Nat.zero_le _
   | some b => exact h8 b (List.mem_of_getElem? hb)
  have h2 : (rowPl f (l.getD f []).length).length = (l.getD f []).length := by simp [rowPl]
  omega
theorem plN_len {is : Int × Int → Bool} {l : List (List ST)} (h8 : ∀ b ∈ l, b.length ≤ 8) (f a : Nat) : (plN is l f a).length ≤ 8 * f + a := by
 unfold plN
 refine Nat.le_trans (List.length_filter_le _ _) ?_
 have h1 := uptoPl_len h8 f
 have h2 : (rowPl f a).length = a := by simp [rowPl]
 rw [List.length_append]
 omega
def plL (is : Int × Int → Bool) (l : List (List ST)) : List (Int × Int) := plN is l l.length 0
end Go.Proofs.Ytjkoibfkklhaiaa.SX
namespace Go.Proofs.Ytjkoibfkklhaiaa.SX
open Go.RowKit
section
variable {P : Program} {w w0 : World} {kt mt v : TypeId} {Rs : List Asn}
theorem run_mapGet (K : WideMaps.KeyLaw P kt) (hm : P.underlying mt = some (.map kt v)) (hz : (zeroValue v).run P w = .ok (.bool false) w) (hkey : ∀ p, small p → ∃ l, keyOf P kt (keyV p) = some l) {es : Array MapEntry} {clock b : Nat} {pl : List (Int × Int)} (hb : w.heap[b]? = some (.map es clock)) (hes : MapIs es clock pl) (p : Int × Int) (hp : small p) :
    (Instr.lookup mt (.map (some b)) (keyV p) false).run P w = .ok (.bool (decide (p ∈ pl))) w := by
  obtain ⟨l, hl⟩ := hkey p hp
  have hks : ∀ x ∈ es.toList, ∃ l, keyOf P kt x.key = some l := fun x hx => by
    obtain ⟨q, hq, hxk, _⟩ := hes.keys x hx;rw [hxk];exact hkey q (hes.sm q hq)
  rcases K.find w hl es.toList hks with ⟨h1, h2⟩ | ⟨j, e0, h1, h2, h3⟩
  · have hn : p ∉ pl := fun hm => by
      obtain ⟨x, hx, hxk⟩ := hes.all p hm;exact h2 x hx hxk
    simp [Instr.lookup, run_underlying hm, MapKept.run_getObj_map hb, K.check w _ hl, h1, hz, Result.andThen, hn]
  · obtain ⟨q, hq, hk, hv⟩ := hes.keys e0 (List.mem_of_getElem? h2)
    rw [h3] at hk;obtain rfl := keyV_inj hk
    simp [Instr.lookup, run_underlying hm, MapKept.run_getObj_map hb, K.check w _ hl, h1, hv, Result.andThen, hq]
theorem Sat.mapE {b : Nat} {pl : List (Int × Int)} (h : Sat w0 w Rs) (p : Nat) (hp : Rs[p]? = some (xZ b pl)) : ∃ es clock, w.heap[b]? = some (.map es clock) ∧ MapIs es clock pl := by
 obtain ⟨⟨⟨es, clock⟩, hes⟩, hS2⟩ := h.open_ p hp
 have hpl : p < Rs.length := (List.getElem?_eq_some_iff.1 hp).1
 exact ⟨es, clock, hS2.obj p (by rw [List.getElem?_set_self hpl]), hes⟩
theorem v_look {R : Array Oper} {n : Nat} {e : Env} {a : Act} {S : World → Prop} {i d : Nat} {x y : Operand} {ty : TypeId} {b : Nat} {q : Int × Int} {pl : List (Int × Int)} (h : Has n e a) (ho : AtW R i (.lookup mt x y false) (some d) ty a)
  (hx : ev e x = some (.map (some b))) (hy : ev e y = some (keyV q)) (L : WideMaps.KeyLaw P kt) (hm : P.underlying mt = some (.map kt v)) (hz : ∀ w, (zeroValue v).run P w = .ok (.bool false) w) (hkey : ∀ p, small p → ∃ l, keyOf P kt (keyV p) = some l)
  (hb : ∀ w, S w → ∃ es clock, w.heap[b]? = some (.map es clock) ∧ MapIs es clock pl) (hq : small q) : Val P R i a S d (.bool (decide (q ∈ pl))) :=
 Val.of_run ho fun o w h1 h2 hS => by
  obtain ⟨es, clock, hw, hes⟩ := hb w hS
  rw [exec_eq h h1 h2 (by simp [covers, Op.operands, hx, hy, notSelect])]
  have hr := run_mapGet (w := w) L hm (hz w) hkey hw hes q hq
  simp [execOp, opr, evD, hx, hy, hr]
end
end Go.Proofs.Ytjkoibfkklhaiaa.SX
namespace Go.Proofs.Ytjkoibfkklhaiaa
namespace SX
open Go.RowKit Go.Proofs.YtjkoibfkklhaiaaW.PrintWords
structure RdE {α : Type} (enc : α → List Value) (sz : Nat) (w : World) (s : Sl) (l : List α) : Prop where
 len : s.n = l.length
 le : l.length ≤ s.c
 big : l.length ≤ 9223372036854775807
 at_ : ∀ (j : Nat) (x : α), l[j]? = some x → s.A = some ⟨bk s, of_ s, none⟩ ∧ ∀ (o : Nat) (u : Value), (enc x)[o]? = some u → w.cell? ⟨bk s, of_ s + j * sz + o, none⟩ = some u
section
variable {α : Type} {enc : α → List Value} {sz : Nat} {w0 w w' : World} {Rs : List Asn} {s : Sl} {l : List α}
theorem RdE.below (h : RdE enc sz w s l) (hb : Below w.heap.size w w') : RdE enc sz w' s l := ⟨h.len, h.le, h.big, fun j x hx => ⟨(h.at_ j x hx).1, fun o u hu => pw_cell_below hb ((h.at_ j x hx).2 o u hu)⟩⟩
theorem RdE.sat (h : RdE enc sz w0 s l) (hS : Sat w0 w Rs) : RdE enc sz w s l := h.below hS.below
theorem Sat.rowC {T : TypeId} {vs : List Value} (h : Sat w0 w Rs) (i : Nat) (hi : Rs[i]? = some (SX.row s.v T sz vs)) : s.n ≤ s.c ∧ s.n ≤ 9223372036854775807 := by
  obtain ⟨n, h1, h2⟩ := h.row i hi
  obtain ⟨A, sn, sc⟩ := s
  have hml : maxLen ≤ 9223372036854775807 := by decide
  rcases h2 with ⟨e, h0⟩ | ⟨g, cap, cur, e, _, hg, h3, h4, h5, h6⟩
  · simp only [Sl.v, Value.slice.injEq] at e
    obtain ⟨rfl, rfl, rfl⟩ := e;exact ⟨Nat.le_refl _, by simp⟩
  · simp only [Sl.v, Value.slice.injEq] at e
    obtain ⟨rfl, rfl, rfl⟩ := e
    dsimp only
    exact ⟨by omega, by omega⟩
theorem Sat.rdE {T : TypeId} (h : Sat w0 w Rs) (i : Nat) (hsz : ∀ x, (enc x).length = sz) (h0 : 0 < sz) (hi : Rs[i]? = some (SX.row s.v T sz (l.flatMap enc))) : RdE enc sz w s l := by
 have hn := h.rowL i hsz h0 hi
 obtain ⟨hc, hb⟩ := h.rowC i hi
 refine ⟨hn, by rw [← hn]; exact hc, by rw [← hn]; exact hb, fun j x hx => ?_⟩
 have hj := (List.getElem?_eq_some_iff.1 hx).1
 have hA := h.rowA i hi (by rw [flat_length hsz]; exact Nat.mul_pos (by omega) h0)
 have hof : of_ s = 0 := by simp [of_, hA]
 refine ⟨by rw [hof]; exact hA, fun o u hu => ?_⟩
 have ho := (List.getElem?_eq_some_iff.1 hu).1
 rw [hsz] at ho
 rw [hof, Nat.zero_add]
 exact (h.rdC i hi).cells _ _ ((flat_get (enc := enc) (o := o) hsz hx ho).trans hu)
end
section
variable {P : Program} {R : Array Oper} {n : Nat} {e : Env} {a : Act} {w : World}
theorem v_loadE {S : World → Prop} {i d : Nat} {t : TypeId} {x : Operand} {ty : TypeId} {b f : Nat} {vs : List Value} (h : Has n e a) (ho : AtW R i (.load t x) (some d) ty a) (hx : ev e x = some (.pointer (some ⟨b, f, none⟩)))
  (ht : aggSize P t = some vs.length) (hb : ∀ w, S w → ∀ (o : Nat) (u : Value), vs[o]? = some u → w.cell? ⟨b, f + o, none⟩ = some u) : Val P R i a S d (.agg vs.toArray) :=
 v_loadL h ho hx fun w hw => run_loadVar_agg ht fun i u hu => by rw [add0]; exact hb w hw i u hu
end
end SX
end Go.Proofs.Ytjkoibfkklhaiaa
namespace Go.Proofs.Ytjkoibfkklhaiaa.G
open Go.RowKit Go.Proofs.Ytjkoibfkklhaiaa.SX Go.Proofs.YtjkoibfkklhaiaaW.PrintWords Go.Proofs.YtjkoibfkklhaiaaW.PrintLast Go.Proofs.YtjkoibfkklhaiaaW.PrintMore
theorem numB_le {x : Int} (h : numB x = true) : -32768 ≤ x ∧ x ≤ 32767 := by simpa only [numB, Bool.and_eq_true, decide_eq_true_eq] using h
theorem inB_le {x lo hi : Int} (h : inB x lo hi = true) : lo ≤ x ∧ x ≤ hi := by simpa only [inB, Bool.and_eq_true, decide_eq_true_eq] using h
def rangeB (low high : Int) : Bool := numB low && numB high && inB high low (low + 100)
theorem rangeB_le {low high : Int} (h : rangeB low high = true) : (-32768 ≤ low ∧ low ≤ 32767) ∧ (-32768 ≤ high ∧ high ≤ 32767) ∧ low ≤ high ∧ high ≤ low + 100 := by
 simp only [rangeB, Bool.and_eq_true] at h
 exact ⟨numB_le h.1.1, numB_le h.1.2, inB_le h.2⟩
def hitsN (g : Int → Bool × Bool) (low : Int) (n : Nat) : List Int := ((List.range n).map fun (j : Nat) => low + (j : Int)).filter fun x => (g x).1
theorem hitsN_no {g : Int → Bool × Bool} {low x : Int} {n : Nat} (hx : x = low + (n : Int)) (h : (g x).1 = false) : hitsN g low (n + 1) = hitsN g low n := by
 unfold hitsN; subst hx; rw [List.range_succ, List.map_append, List.filter_append]; simp [h]
theorem hitsN_yes {g : Int → Bool × Bool} {low x : Int} {n : Nat} (hx : x = low + (n : Int)) (h : (g x).1 = true) : hitsN g low (n + 1) = hitsN g low n ++ [x] := by
 unfold hitsN; subst hx; rw [List.range_succ, List.map_append, List.filter_append]; simp [h]
theorem hitsN_len (g : Int → Bool × Bool) (low : Int) (n : Nat) : (hitsN g low n).length ≤ n := by
 unfold hitsN; exact Nat.le_trans (List.length_filter_le _ _) (by simp)
def cntN (low high : Int) : Nat := (high - low + 1).toNat
def argsB (g : Int → Bool × Bool) (low high : Int) : Bool := rangeB low high && (List.range (cntN low high)).all fun (j : Nat) => (g (low + (j : Int))).2
theorem all_next {g : Int → Bool × Bool} {low x : Int} {n : Nat} (hx : x = low + (n : Int)) (hall : ∀ j : Nat, j < n → (g (low + (j : Int))).2 = true) (h : (g x).2 = true) : ∀ j : Nat, j < n + 1 → (g (low + (j : Int))).2 = true := by
 intro j hj
 by_cases he : j = n
 · subst he; rw [← hx]; exact h
 · exact hall j (by omega)
def argsL (g : Int → Bool × Bool) (low high : Int) : List Int := if argsB g low high = true then hitsN g low (cntN low high) else []
theorem argsB_yes {g : Int → Bool × Bool} {low high : Int} (h : rangeB low high = true) (hall : ∀ j : Nat, j < cntN low high → (g (low + (j : Int))).2 = true) : argsB g low high = true := by
 unfold argsB; rw [h, Bool.true_and, List.all_eq_true]; intro j hj; exact hall j (List.mem_range.1 hj)
theorem argsB_no {g : Int → Bool × Bool} {low high x : Int} {j : Nat} (hx : x = low + (j : Int)) (hj : j < cntN low high) (h : (g x).2 = false) : argsB g low high = false := by
 unfold argsB; subst hx; rw [Bool.and_eq_false_iff]; right; rw [List.all_eq_false]; exact ⟨j, List.mem_range.2 hj, by rw [h]; decide⟩
theorem argsL_no {g : Int → Bool × Bool} {low high : Int} (h : argsB g low high = false) : argsL g low high = [] := by unfold argsL; rw [h]; rfl
theorem argsL_yes {g : Int → Bool × Bool} {low high : Int} (h : argsB g low high = true) : argsL g low high = hitsN g low (cntN low high) := by unfold argsL; rw [if_pos h]
def runG (p : Int → Bool) (l : List (List ST)) (f fuel : Int) (x : Int) : Bool × Bool := if askB l f x fuel = true then (p (rn l f x fuel).k, true) else (false, false)
def l4B (l : List (List ST)) (f low high fuel : Int) : Bool := askB l f low fuel && numB high && (decide (0 ≤ high - low) && decide (high - low ≤ 100))
theorem askB_to {l : List (List ST)} {f x y fuel : Int} (h : askB l f x fuel = true) (hy : numB y = true) : askB l f y fuel = true := by
 simp only [askB, Bool.and_eq_true] at h ⊢
 exact ⟨⟨h.1.1, hy⟩, h.2⟩
theorem l4B_of {l : List (List ST)} {f low high fuel : Int} (h : l4B l f low high fuel = true) : rangeB low high = true ∧ ∀ j : Nat, j < cntN low high → askB l f (low + (j : Int)) fuel = true := by
 simp only [l4B, Bool.and_eq_true, decide_eq_true_eq] at h
 obtain ⟨⟨h1, h2⟩, h3, h4⟩ := h
 have h5 : numB low = true := by simp only [askB, Bool.and_eq_true] at h1; exact h1.1.2
 have h6 := numB_le h5; have h7 := numB_le h2
 refine ⟨by simp only [rangeB, inB, h5, h2, Bool.and_eq_true, decide_eq_true_eq, true_and]; omega, fun j hj => askB_to h1 ?_⟩
 unfold cntN at hj
 simp only [numB, Bool.and_eq_true, decide_eq_true_eq]; omega
theorem argsB_run {p : Int → Bool} {l : List (List ST)} {f low high fuel : Int} : argsB (runG p l f fuel) low high = l4B l f low high fuel := by
  cases h : l4B l f low high fuel with
  | true => obtain ⟨h1, h2⟩ := l4B_of h; exact argsB_yes h1 fun j hj => by unfold runG; rw [if_pos (h2 j hj)]
  | false =>
    rw [← Bool.not_eq_true];intro h2;simp only [argsB, Bool.and_eq_true, List.all_eq_true, List.mem_range] at h2;obtain ⟨h3, h4⟩ := h2;obtain ⟨h5, h6, h7, h8⟩ := rangeB_le h3;have h9 := h4 0 (by unfold cntN; omega);unfold runG at h9
    by_cases hk : askB l f (low + ((0 : Nat) : Int)) fuel = true
    · rw [show low + ((0 : Nat) : Int) = low by omega] at hk
      have : l4B l f low high fuel = true := by
        simp only [rangeB, Bool.and_eq_true] at h3;simp only [l4B, hk, h3.1.2, Bool.and_eq_true, decide_eq_true_eq, true_and]
        omega
      rw [this] at h; cases h
    · rw [if_neg hk] at h9; cases h9
theorem runG_yes {p : Int → Bool} {l : List (List ST)} {f fuel x : Int} (h : askB l f x fuel = true) : runG p l f fuel x = (p (rn l f x fuel).k, true) := by unfold runG; rw [if_pos h]
theorem runG_no {p : Int → Bool} {l : List (List ST)} {f fuel x : Int} (h : askB l f x fuel = false) : runG p l f fuel x = (false, false) := by unfold runG; rw [h]; rfl
theorem code105 : Try.f105.body = some (Code.seq (cr Try.f105 0 false) (Code.seq (cr Try.f105 1 false) Code.ret)) := by kernel_rfl
theorem isRange_sat {w0 w : World} {Rs : List Asn} {low high : Int} (hS : Sat w0 w Rs) :
  Calls Try.prog 105 #[.int .i64 low, .int .i64 high] w (Ret fun r w' => r = .bool (rangeB low high) ∧ Sat w0 w' Rs) := by
 refine enter (n := 18) Try.func105 code105 (by kernel_rfl) (Nat.le_of_ble_eq_true rfl) (fun a ha => ?_)
 replace ha : Has 18 [(0, iv low), (1, iv high)] a := ha
 refine wp_seq (jX [0] (jQ [(0, 4, .bool false)] ha fun a ha => ?_))
 refine jY (jJ (wp_seq (jX [0, 1, 2, 3, 4, 5, 6, 7, 8, 9, 10, 11, 12, 13] (jQ [(0, 5, iv low)] ha fun a ha => ?_))))
 refine jK (xJ 6 (vs := [iv low]) ha (num_sat hS _) fun v1 w a hp2 ha => ?_)
 obtain ⟨rfl, hS⟩ := hp2
 refine jQ [(2, 7, .bool (numB low))] ha fun a ha => ?_
 rcases Bool.eq_false_or_eq_true (numB low) with c3 | c3
 ·
  replace ha := ha.turn 6 (.bool true) rfl (congrArg Value.bool c3)
  replace ha := ha.turn 7 (.bool true) rfl (congrArg Value.bool c3)
  have hb := numB_le c3
  refine jQ [(3, 8, iv high)] ha fun a ha => ?_
  refine jK (xJ 9 (vs := [iv high]) ha (num_sat hS _) fun v4 w a hp5 ha => ?_)
  obtain ⟨rfl, hS⟩ := hp5
  refine jQ [(5, 10, .bool (numB high)), (6, 11, .bool (numB high))] ha fun a ha => ?_
  rcases Bool.eq_false_or_eq_true (numB high) with c6 | c6
  ·
   replace ha := ha.turn 9 (.bool true) rfl (congrArg Value.bool c6);replace ha := ha.turn 10 (.bool true) rfl (congrArg Value.bool c6);replace ha := ha.turn 11 (.bool true) rfl (congrArg Value.bool c6);refine jQ [(7, 12, iv high), (8, 13, iv low), (9, 14, iv low)] ha fun a ha => ?_;refine zZ 15 (low + 100) ha fun a ha => ?_;refine jK (xJ 16 (vs := [iv high, iv low, iv (low + 100)]) ha (in_sat hS _ _ _) fun v7 w a hp8 ha => ?_);obtain ⟨rfl, hS⟩ := hp8;refine jQ [(12, 17, .bool (inB high low (low + 100))), (13, 4, .bool (inB high low (low + 100)))] ha fun a ha => ?_;refine jY (jJ (wp_ret (qG ha (by kernel_rfl) (xG (t := 4) ha rfl) ?_)));have hE : rangeB low high = (inB high low (low + 100)) := by unfold rangeB; simp only [c3, c6, Bool.true_and, Bool.and_true, Bool.false_and, Bool.and_false, Bool.and_self]
   rw [hE];exact ⟨rfl, hS⟩
  replace ha := ha.turn 9 (.bool false) rfl (congrArg Value.bool c6)
  replace ha := ha.turn 10 (.bool false) rfl (congrArg Value.bool c6)
  replace ha := ha.turn 11 (.bool false) rfl (congrArg Value.bool c6)
  refine jQ [(7, 12, undef), (8, 13, undef), (9, 14, undef), (10, 15, undef), (11, 16, undef), (12, 17, .bool false), (13, 4, .bool false)] ha fun a ha => ?_
  refine jY (jJ (wp_ret (qG ha (by kernel_rfl) (xG (t := 4) ha rfl) ?_)))
  have hE : rangeB low high = false := by unfold rangeB; simp only [c3, c6, Bool.true_and, Bool.and_true, Bool.false_and, Bool.and_false, Bool.and_self]
  rw [hE]
  exact ⟨rfl, hS⟩
 replace ha := ha.turn 6 (.bool false) rfl (congrArg Value.bool c3)
 replace ha := ha.turn 7 (.bool false) rfl (congrArg Value.bool c3)
 refine jQ [(3, 8, undef), (4, 9, undef), (5, 10, .bool false), (6, 11, .bool false), (7, 12, undef), (8, 13, undef), (9, 14, undef), (10, 15, undef), (11, 16, undef), (12, 17, .bool false), (13, 4, .bool false)] ha fun a ha => ?_
 refine jY (jJ (wp_ret (qG ha (by kernel_rfl) (xG (t := 4) ha rfl) ?_)))
 have hE : rangeB low high = false := by unfold rangeB; simp only [c3, Bool.true_and, Bool.and_true, Bool.false_and, Bool.and_false, Bool.and_self]
 rw [hE]
 exact ⟨rfl, hS⟩
theorem code69 : Try.f69.body = some (Code.seq (cr Try.f69 0 false) (Code.seq (cr Try.f69 1 false) Code.ret)) := by kernel_rfl
theorem l4_sat0 {w0 : World} {s : Sl} {l : List (List ST)} {f low high fuel : Int} (hr : RdP w0 s l) (hf : Fits l) :
  Calls Try.prog 69 #[.agg #[.slice s.A s.n s.c], iv f, iv low, iv high, iv fuel] w0 (Ret fun r w' => r = .bool (l4B l f low high fuel) ∧ Sat w0 w' []) := by
 have hS : Sat w0 w0 [] := Sat.start w0
 refine enter (n := 26) Try.func69 code69 (by kernel_rfl) (Nat.le_of_ble_eq_true rfl) (fun a ha => ?_)
 replace ha : Has 26 [(0, .agg #[.slice s.A s.n s.c]), (1, iv f), (2, iv low), (3, iv high), (4, iv fuel)] a := ha
 refine wp_seq (jX [0, 1] (jK (qV 5 [.slice s.A s.n s.c] 35 (ptr · 0) ha hS fun b1 w a hb2 hS ha => ?_)))
 refine jQ [(1, 10, .bool false)] ha fun a ha => ?_
 refine jY (jJ (wp_seq (jX [0, 1, 2, 3, 4, 5, 6, 7, 8, 9, 10, 11, 12, 13, 14, 15] (zY 11 ha (hS.blk 0 rfl) fun a ha => ?_))))
 refine jQ [(1, 12, iv f), (2, 13, iv low), (3, 14, iv fuel)] ha fun a ha => ?_
 refine jK (xJ 15 (vs := [.agg #[.slice s.A s.n s.c], iv f, iv low, iv fuel]) ha (ask_sat hS (hr.sat hS) hf) fun v3 w a hp4 ha => ?_)
 obtain ⟨rfl, hS⟩ := hp4
 refine jQ [(5, 16, .bool (askB l f low fuel))] ha fun a ha => ?_
 rcases Bool.eq_false_or_eq_true (askB l f low fuel) with c5 | c5
 ·
  replace ha := ha.turn 15 (.bool true) rfl (congrArg Value.bool c5)
  replace ha := ha.turn 16 (.bool true) rfl (congrArg Value.bool c5)
  have hc := (ask_parts c5).2.2.1
  refine jQ [(6, 17, iv high)] ha fun a ha => ?_
  refine jK (xJ 18 (vs := [iv high]) ha (q_num hS _) fun v6 w a hp7 ha => ?_)
  obtain ⟨rfl, hS⟩ := hp7
  refine jQ [(8, 19, .bool (numB high)), (9, 20, .bool (numB high))] ha fun a ha => ?_
  rcases Bool.eq_false_or_eq_true (numB high) with c8 | c8
  ·
   replace ha := ha.turn 18 (.bool true) rfl (congrArg Value.bool c8);replace ha := ha.turn 19 (.bool true) rfl (congrArg Value.bool c8);replace ha := ha.turn 20 (.bool true) rfl (congrArg Value.bool c8);have hb := numB_le c8;refine jQ [(10, 21, iv high), (11, 22, iv low)] ha fun a ha => ?_;refine zZ 23 (high - low) ha fun a ha => ?_;refine jK (xJ 24 (vs := [iv (high - low), iv 0, iv 100]) ha (q_in hS _ _ _) fun v9 w a hp10 ha => ?_);obtain ⟨rfl, hS⟩ := hp10;refine jQ [(14, 25, .bool (decide ((0 : Int) ≤ (high - low)) && decide ((high - low) ≤ 100))), (15, 10, .bool (decide ((0 : Int) ≤ (high - low)) && decide ((high - low) ≤ 100)))] ha fun a ha => ?_;refine jY ?_;replace ha := ha.as [(10, .bool (decide ((0 : Int) ≤ (high - low)) && decide ((high - low) ≤ 100)))] rfl;refine jJ (wp_ret (qG ha (by kernel_rfl) (xG (t := 10) ha rfl) ?_));have hE : l4B l f low high fuel = (decide ((0 : Int) ≤ (high - low)) && decide ((high - low) ≤ 100)) := by unfold l4B; simp only [c5, c8, Bool.true_and, Bool.and_true, Bool.false_and, Bool.and_false, Bool.and_self]
   rw [hE];exact ⟨rfl, Sat.rest [_] hS⟩
  replace ha := ha.turn 18 (.bool false) rfl (congrArg Value.bool c8)
  replace ha := ha.turn 19 (.bool false) rfl (congrArg Value.bool c8)
  replace ha := ha.turn 20 (.bool false) rfl (congrArg Value.bool c8)
  refine jQ [(10, 21, undef), (11, 22, undef), (12, 23, undef), (13, 24, undef), (14, 25, .bool false), (15, 10, .bool false)] ha fun a ha => ?_
  refine jY ?_
  replace ha := ha.as [(10, .bool false)] rfl
  refine jJ (wp_ret (qG ha (by kernel_rfl) (xG (t := 10) ha rfl) ?_))
  have hE : l4B l f low high fuel = false := by unfold l4B; simp only [c5, c8, Bool.true_and, Bool.and_true, Bool.false_and, Bool.and_false, Bool.and_self]
  rw [hE]
  exact ⟨rfl, Sat.rest [_] hS⟩
 replace ha := ha.turn 15 (.bool false) rfl (congrArg Value.bool c5)
 replace ha := ha.turn 16 (.bool false) rfl (congrArg Value.bool c5)
 refine jQ [(6, 17, undef), (7, 18, undef), (8, 19, .bool false), (9, 20, .bool false), (10, 21, undef), (11, 22, undef), (12, 23, undef), (13, 24, undef), (14, 25, .bool false), (15, 10, .bool false)] ha fun a ha => ?_
 refine jY ?_
 replace ha := ha.as [(10, .bool false)] rfl
 refine jJ (wp_ret (qG ha (by kernel_rfl) (xG (t := 10) ha rfl) ?_))
 have hE : l4B l f low high fuel = false := by unfold l4B; simp only [c5, Bool.true_and, Bool.and_true, Bool.false_and, Bool.and_false, Bool.and_self]
 rw [hE]
 exact ⟨rfl, Sat.rest [_] hS⟩
theorem l4_sat {w0 w : World} {Rs : List Asn} {s : Sl} {l : List (List ST)} {f low high fuel : Int} (hS : Sat w0 w Rs) (hr : RdP w s l) (hf : Fits l) :
  Calls Try.prog 69 #[.agg #[.slice s.A s.n s.c], iv f, iv low, iv high, iv fuel] w (Ret fun r w' => r = .bool (l4B l f low high fuel) ∧ Sat w0 w' Rs) := lift0 hS (l4_sat0 hr hf)
theorem code71 : Try.f71.body = some (Code.seq (cr Try.f71 0 false) (Code.seq (Code.seq (cr Try.f71 1 false) (Code.cond (Operand.tmp 15) (Code.seq (cr Try.f71 2 false) Code.ret) Code.skip)) (Code.seq (cr Try.f71 3 false) (Code.seq (Code.seq (cr Try.f71 4 false) (Code.block 0 (Code.loop (Code.seq (Code.seq (cr Try.f71 5 false) (Code.cond (Operand.tmp 20) Code.skip (Code.exit 0))) (Code.seq (Code.block 1 (Code.seq (cr Try.f71 7 false) (Code.seq (Code.seq (cr Try.f71 8 false) (Code.cond (Operand.tmp 30) (Code.seq (cr Try.f71 9 false) Code.ret) Code.skip)) (Code.seq (cr Try.f71 10 false) (Code.cond (Operand.tmp 31) (cr Try.f71 11 false) Code.skip))))) (cr Try.f71 6 false)))))) (Code.seq (cr Try.f71 12 false) Code.ret))))) := by kernel_rfl
theorem set_drop {α : Type} {f : Nat → List α} {l : List α} {j : Nat} {x : α} (hf : (f j).length = j) (h : j < l.length) (hn : f (j + 1) = f j ++ [x]) : (f j ++ l.drop j).set j x = f (j + 1) ++ l.drop (j + 1) := by
 rw [List.set_append_right _ _ (by rw [hf]; exact Nat.le_refl _), hf, Nat.sub_self, List.drop_eq_getElem_cons h, List.set_cons_zero, hn, List.append_assoc]; rfl
def mkR (k0 : Int) (n : Nat) : List (Int × Int) := (List.range n).map fun (j : Nat) => (k0 + 2 * (j : Int), k0 + 2 * (j : Int) + 1)
theorem mkR_len (k0 : Int) (n : Nat) : (mkR k0 n).length = n := by simp [mkR]
theorem mkR_next {k0 : Int} {l : List (Int × Int)} {j : Nat} {k : Int} (hk : k = k0 + 2 * (j : Int)) (h : j < l.length) : (mkR k0 j ++ l.drop j).set j (k, k + 1) = mkR k0 (j + 1) ++ l.drop (j + 1) :=
 set_drop (mkR_len k0 j) h (by unfold mkR; rw [List.range_succ, List.map_append, hk]; rfl)
theorem mkR_some {k0 : Int} {l : List (Int × Int)} {j : Nat} (h : j < l.length) : ∃ z, (mkR k0 j ++ l.drop j)[j]? = some z := ⟨_, List.getElem?_eq_getElem (by rw [List.length_append, mkR_len, List.length_drop]; omega)⟩
theorem ix2 {j : Nat} (h : (j : Int) < 2) : j = 0 ∨ j = 1 := by omega
theorem mkR_at {k0 : Int} {n j : Nat} {k : Int} (hk : k = k0 + 2 * (j : Int)) (h : j < n) : (mkR k0 n)[j]? = some (k, k + 1) := by
 unfold mkR; rw [List.getElem?_map, List.getElem?_range h, hk]; rfl
theorem mkR_at1 {k0 : Int} {n j : Nat} {k : Int} (hk : k = k0 + 2 * (j : Int) + 1) (h : j < n) : (mkR k0 n)[j]? = some (k - 1, k) := by
 rw [mkR_at (k := k - 1) (by omega) h, show k - 1 + 1 = k by omega]
def midP (k : Int) (z : Int × Int) (j : Nat) : Int × Int := if j = 0 then z else if j = 1 then (k, z.2) else (k, k + 1)
theorem mid_1 {k k2 : Int} {z : Int × Int} (h : k2 = k + ((0 : Nat) : Int)) : midP k z (0 + 1) = (k2, (midP k z 0).2) := by subst h; simp [midP]
theorem mid_2 {k k2 : Int} {z : Int × Int} (h : k2 = k + ((1 : Nat) : Int)) : midP k z (1 + 1) = ((midP k z 1).1, k2) := by subst h; rfl
theorem code68 : Try.f68.body = some (Code.seq (cr Try.f68 0 false) (Code.seq (Code.seq (cr Try.f68 1 false) (Code.block 0 (Code.loop (Code.seq (Code.seq (cr Try.f68 2 false) (Code.cond (Operand.tmp 7) Code.skip (Code.exit 0))) (Code.seq (Code.block 1 (Code.seq (cr Try.f68 4 true) (Code.cond (Operand.tmp 16) (Code.seq (cr Try.f68 5 false) Code.ret) Code.skip))) (cr Try.f68 3 false)))))) (Code.seq (cr Try.f68 6 false) Code.ret))) := by kernel_rfl
theorem eqIntA2_sat {w0 w : World} {Rs : List Asn} {x0 x1 : Int} (hS : Sat w0 w Rs) :
  Calls Try.prog 68 #[.agg #[iv x0, iv x1], .agg #[iv x0, iv x1]] w (Ret fun r w' => r = .bool true ∧ Sat w0 w' Rs) := by
 refine enter (n := 17) Try.func68 code68 (by kernel_rfl) (Nat.le_of_ble_eq_true rfl) (fun a ha => ?_)
 replace ha : Has 17 [(0, .agg #[iv x0, iv x1]), (1, .agg #[iv x0, iv x1])] a := ha
 refine wp_seq (jX [0, 1, 2] (jK (qV 2 [iv x0, iv x1] 96 (ptr · 0) ha hS fun b1 w a hb2 hS ha => ?_)))
 refine jK (qV 3 [iv x0, iv x1] 96 (ptr · 0) ha hS fun b3 w a hb4 hS ha => ?_)
 refine jQ [(2, 4, .bool false)] ha fun a ha => ?_
 refine jY (jJ (wp_seq (wp_seq (jX [0] (jQ [(0, 5, iv 0)] ha fun a ha => ?_)))))
 refine jY (jJ (wp_block ?_))
 replace hS := hS.pickN 2 [1, 0]
 refine wp_loop_ghost (fun n_ a_ w_ => ∃ (i : Nat), n_ = 2 - i ∧ (i ≤ 2) ∧ Has 17 [(2, ptr b1 0), (3, ptr b3 0), (5, iv (i : Int))] a_ ∧ Sat w0 w_ ((SX.blk b1 [iv x0, iv x1] 96) :: (SX.blk b3 [iv x0, iv x1] 96) :: Rs)) _ ⟨0, rfl, Nat.zero_le _, ha.keeps [2, 3, 5] _ rfl, hS⟩ ?_
 rintro n_ a w ⟨i, rfl, hi, ha, hS⟩
 refine wp_seq (wp_seq (jX [0, 1] (jQ [(0, 6, iv (i : Int)), (1, 7, .bool (decide ((i : Int) < 2)))] ha fun a ha => ?_)))
 refine jY (jJ ?_)
 by_cases c5 : (i : Int) < 2
 ·
  rcases ix2 c5 with rfl | rfl
  ·
   replace ha := ha.turn 5 (iv 0) rfl rfl;refine jV ha rfl (decide_eq_true c5) ?_;refine wp_skip (jJ (wp_seq (wp_block (wp_seq (xY 7 7 hS fun w hS => ?_)))));refine jZ (k := 5) [(0, 10, iv 0), (1, 11, ptr b1 0)] ha (.inr hS) fun a ha => ?_;refine qW 2 (d := 12) (b := b1) (j := 0) ha hS (fun _ hw => hw.blk 0 rfl) rfl fun a ha => ?_;refine jZ (k := 2) [(3, 13, iv 0), (4, 14, ptr b3 0)] ha (.inr hS) fun a ha => ?_;refine qW 5 (d := 15) (b := b3) (j := 0) ha hS (fun _ hw => hw.blk 1 rfl) rfl fun a ha => ?_;refine yY 6 (.bool false) ha ((qZ (v := .bool (!(decide (x0 = x0)))) ha (yU (op := (Op.binOp BinOp.neq 3 (Operand.tmp 12) (Operand.tmp 15) 3)) (d := some 16) (ty := 4)) (by kernel_rfl) (fun _ => by kernel_rfl)).as (by simp)) (.inr hS) fun a ha => ?_;refine qU (jJ ?_);refine jW ha rfl rfl ?_;refine wp_skip (in_n (jJ (jX [0, 1, 2] (jQ [(0, 8, iv 0), (1, 9, iv 1), (2, 5, iv 1)] ha fun a ha => ?_))));refine jY (jJ ?_);exact ⟨_, by omega, 1, rfl, by omega, ha.keeps [2, 3, 5] _ rfl, hS⟩
  replace ha := ha.turn 5 (iv 1) rfl rfl
  refine jV ha rfl (decide_eq_true c5) ?_
  refine wp_skip (jJ (wp_seq (wp_block (wp_seq (xY 7 7 hS fun w hS => ?_)))))
  refine jZ (k := 5) [(0, 10, iv 1), (1, 11, ptr b1 1)] ha (.inr hS) fun a ha => ?_
  refine qW 2 (d := 12) (b := b1) (j := 1) ha hS (fun _ hw => hw.blk 0 rfl) rfl fun a ha => ?_
  refine jZ (k := 2) [(3, 13, iv 1), (4, 14, ptr b3 1)] ha (.inr hS) fun a ha => ?_
  refine qW 5 (d := 15) (b := b3) (j := 1) ha hS (fun _ hw => hw.blk 1 rfl) rfl fun a ha => ?_
  refine yY 6 (.bool false) ha ((qZ (v := .bool (!(decide (x1 = x1)))) ha (yU (op := (Op.binOp BinOp.neq 3 (Operand.tmp 12) (Operand.tmp 15) 3)) (d := some 16) (ty := 4)) (by kernel_rfl) (fun _ => by kernel_rfl)).as (by simp)) (.inr hS) fun a ha => ?_
  refine qU (jJ ?_)
  refine jW ha rfl rfl ?_
  refine wp_skip (in_n (jJ (jX [0, 1, 2] (jQ [(0, 8, iv 1), (1, 9, iv 2), (2, 5, iv 2)] ha fun a ha => ?_))))
  refine jY (jJ ?_)
  exact ⟨_, by omega, 2, rfl, by omega, ha.keeps [2, 3, 5] _ rfl, hS⟩
 refine jW ha rfl (decide_eq_false c5) ?_
 refine wp_exit (xW (xW (in_x (jJ (wp_seq (jX [0] (jQ [(0, 4, .bool true)] ha fun a ha => ?_)))))))
 refine jY (jJ (wp_ret (qG ha (by kernel_rfl) (xG (t := 4) ha rfl) ?_)))
 exact ⟨rfl, Sat.rest [_, _] hS⟩
theorem code36 : Try.f36.body = some (Code.seq (cr Try.f36 0 false) (Code.seq (Code.seq (cr Try.f36 1 false) (Code.cond (Operand.tmp 10) (Code.seq (cr Try.f36 2 false) Code.ret) Code.skip)) (Code.seq (Code.seq (cr Try.f36 3 false) (Code.block 0 (Code.loop (Code.seq (Code.seq (cr Try.f36 4 false) (Code.cond (Operand.tmp 14) Code.skip (Code.exit 0))) (Code.seq (Code.block 1 (Code.seq (cr Try.f36 6 true) (Code.cond (Operand.tmp 26) (Code.seq (cr Try.f36 7 false) Code.ret) Code.skip))) (cr Try.f36 5 false)))))) (Code.seq (cr Try.f36 8 false) Code.ret)))) := by kernel_rfl
theorem eqIntA2S_sat0 {w0 : World} {sa sb : Sl} {l : List (Int × Int)} (hra : RdE cellsR 2 w0 sa l) (hrb : RdE cellsR 2 w0 sb l) :
  Calls Try.prog 36 #[.slice sa.A sa.n sa.c, .slice sb.A sb.n sb.c] w0 (Ret fun r w' => r = .bool true ∧ Sat w0 w' []) := by
 have hS : Sat w0 w0 [] := Sat.start w0
 have hbig := hra.big
 have hlen := hra.len
 have hlen2 := hrb.len
 refine enter (n := 27) Try.func36 code36 (by kernel_rfl) (Nat.le_of_ble_eq_true rfl) (fun a ha => ?_)
 replace ha : Has 27 [(0, .slice sa.A sa.n sa.c), (1, .slice sb.A sb.n sb.c)] a := ha
 refine wp_seq (jX [0] (jQ [(0, 4, .bool false)] ha fun a ha => ?_))
 refine jY (jJ (wp_seq (wp_seq (jX [0, 1, 2, 3, 4] (jQ [(0, 6, .slice sa.A sa.n sa.c), (1, 7, iv (sa.n : Int)), (2, 8, .slice sb.A sb.n sb.c), (3, 9, iv (sb.n : Int)), (4, 10, .bool (!(decide ((sa.n : Int) = (sb.n : Int)))))] ha fun a ha => ?_)))))
 refine jY (jJ ?_)
 by_cases c1 : (sa.n : Int) = (sb.n : Int)
 ·
  refine jW ha rfl (zJ (decide_eq_true c1)) ?_
  refine wp_skip (jJ (wp_seq (wp_seq (jX [0] (jQ [(0, 5, iv 0)] ha fun a ha => ?_)))))
  refine jY (jJ (wp_block ?_))
  refine wp_loop_ghost (fun n_ a_ w_ => ∃ (i : Nat), n_ = l.length - i ∧ (i ≤ l.length) ∧ Has 27 [(0, .slice sa.A sa.n sa.c), (1, .slice sb.A sb.n sb.c), (5, iv (i : Int))] a_ ∧ Sat w0 w_ ([])) _ ⟨0, rfl, Nat.zero_le _, ha.keeps [0, 1, 5] _ rfl, hS⟩ ?_
  rintro n_ a w ⟨i, rfl, hi, ha, hS⟩
  refine wp_seq (wp_seq (jX [0, 1, 2, 3] (jQ [(0, 11, iv (i : Int)), (1, 12, .slice sa.A sa.n sa.c), (2, 13, iv (sa.n : Int)), (3, 14, .bool (decide ((i : Int) < (sa.n : Int))))] ha fun a ha => ?_)))
  refine jY (jJ ?_)
  by_cases c2 : (i : Int) < (sa.n : Int)
  ·
   have hlt : i < l.length := by omega
   obtain ⟨x9, hx9⟩ : ∃ x, l[i]? = some x := ⟨_, List.getElem?_eq_getElem hlt⟩;refine jV ha rfl (decide_eq_true c2) ?_;refine wp_skip (jJ (wp_seq (wp_block (wp_seq (xY 8 10 hS fun w hS => ?_)))));refine jZ (k := 8) [(0, 17, .slice sa.A sa.n sa.c), (1, 18, iv (i : Int))] ha (.inr hS) fun a ha => ?_;refine yY 2 (.pointer (some ⟨bk sa, of_ sa + i * 2, none⟩)) ha (kY (el := 96) (sz := 2) (j := i) ha (yH (t := 54) (x := 17) (y := 18) (d := 19)) rfl rfl (by kernel_rfl) (by kernel_rfl) (RdE.at_ (hra.sat hS) _ _ hx9).1 (rfl) (by rw [((hra.sat hS)).len]; exact (List.getElem?_eq_some_iff.1 hx9).1)) (.inr hS) fun a ha => ?_;refine zW 3 (.agg #[iv x9.1, iv x9.2]) ha (v_loadE (b := bk sa) (f := of_ sa + i * 2) (vs := [iv x9.1, iv x9.2]) ha (zV (t := 96) (x := 19) (d := 20) (ty := 96)) rfl (by kernel_rfl) (fun w' hw o u hu => by exact (RdE.at_ ((hra.sat hw)) _ _ hx9).2 o u hu)) hS fun a ha => ?_;refine jZ (k := 4) [(4, 21, .slice sb.A sb.n sb.c), (5, 22, iv (i : Int))] ha (.inr hS) fun a ha => ?_;refine yY 6 (.pointer (some ⟨bk sb, of_ sb + i * 2, none⟩)) ha (kY (el := 96) (sz := 2) (j := i) ha (yH (t := 54) (x := 21) (y := 22) (d := 23)) rfl rfl (by kernel_rfl) (by kernel_rfl) (RdE.at_ (hrb.sat hS) _ _ hx9).1 (rfl) (by rw [((hrb.sat hS)).len]; exact (List.getElem?_eq_some_iff.1 hx9).1)) (.inr hS) fun a ha => ?_;refine zW 7 (.agg #[iv x9.1, iv x9.2]) ha (v_loadE (b := bk sb) (f := of_ sb + i * 2) (vs := [iv x9.1, iv x9.2]) ha (zV (t := 96) (x := 23) (d := 24) (ty := 96)) rfl (by kernel_rfl) (fun w' hw o u hu => by exact (RdE.at_ ((hrb.sat hw)) _ _ hx9).2 o u hu)) hS fun a ha => ?_;refine jU 8 (xJ 25 (vs := [.agg #[iv x9.1, iv x9.2], .agg #[iv x9.1, iv x9.2]]) ha (eqIntA2_sat hS) fun v3 w a hp4 ha => ?_);obtain ⟨rfl, hS⟩ := hp4;refine xX (jZ (k := 0) [(9, 26, .bool false)] ha (.inl (by kernel_rfl)) fun a ha => ?_);refine qU (jJ ?_);refine jW ha rfl rfl ?_;refine wp_skip (in_n (jJ (jX [0, 1, 2] (jQ [(0, 15, iv (i : Int))] ha fun a ha => ?_))));refine zZ 16 ((i : Int) + 1) ha fun a ha => ?_;refine jQ [(2, 5, iv ((i : Int) + 1))] ha fun a ha => ?_;refine jY (jJ ?_);exact ⟨_, by omega, i + 1, rfl, by omega, ha.keeps [0, 1, 5] _ rfl, hS⟩
  refine jW ha rfl (decide_eq_false c2) ?_
  refine wp_exit (xW (xW (in_x (jJ (wp_seq (jX [0] (jQ [(0, 4, .bool true)] ha fun a ha => ?_)))))))
  refine jY (jJ (wp_ret (qG ha (by kernel_rfl) (xG (t := 4) ha rfl) ?_)))
  exact ⟨rfl, hS⟩
 refine jV ha rfl (kJ (decide_eq_false c1)) ?_
 refine wp_seq (jX [0] (jQ [(0, 4, .bool false)] ha fun a ha => ?_))
 refine jY (jJ (wp_ret (qH ?_)))
 exfalso; omega
theorem eqIntA2S_sat {w0 w : World} {Rs : List Asn} {sa sb : Sl} {l : List (Int × Int)} (hS : Sat w0 w Rs) (hra : RdE cellsR 2 w sa l) (hrb : RdE cellsR 2 w sb l) :
  Calls Try.prog 36 #[.slice sa.A sa.n sa.c, .slice sb.A sb.n sb.c] w (Ret fun r w' => r = .bool true ∧ Sat w0 w' Rs) := lift0 hS (eqIntA2S_sat0 hra hrb)
theorem set_same {α : Type} {l : List α} {j : Nat} {x : α} (h : l[j]? = some x) : l.set j x = l := List.ext_getElem? fun i => by
 rw [List.getElem?_set]
 split
 · rename_i e; subst e; rw [if_pos (List.getElem?_eq_some_iff.1 h).1, h]
 · rfl
theorem code37 : Try.f37.body = some (Code.seq (cr Try.f37 0 false) (Code.seq (Code.seq (cr Try.f37 1 false) (Code.block 0 (Code.loop (Code.seq (Code.seq (cr Try.f37 2 false) (Code.cond (Operand.tmp 10) Code.skip (Code.exit 0))) (Code.seq (Code.block 1 (Code.seq (cr Try.f37 4 false) (Code.block 2 (Code.loop (Code.seq (Code.seq (cr Try.f37 5 false) (Code.cond (Operand.tmp 14) Code.skip (Code.exit 2))) (Code.seq (Code.block 3 (Code.seq (cr Try.f37 7 false) (cr Try.f37 8 false))) (cr Try.f37 6 false))))))) (cr Try.f37 3 false)))))) (Code.seq (cr Try.f37 9 false) Code.ret))) := by kernel_rfl
theorem markIntA2S_sat {w0 w : World} {Rs : List Asn} {o : Sl} {l : List (Int × Int)} {k0 : Int} (hS : Sat w0 w (SX.row (.slice o.A o.n o.c) 96 2 (encR l) :: Rs)) (h0 : 0 ≤ k0) (h1 : k0 ≤ 100000000) (hl : l.length ≤ 4000000) :
  Calls Try.prog 37 #[.slice o.A o.n o.c, .int .i64 k0] w (Ret fun r w' => r = .int .i64 (k0 + 2 * (l.length : Int)) ∧ Sat w0 w' (SX.row (.slice o.A o.n o.c) 96 2 (encR (mkR k0 l.length)) :: Rs)) := by
 have hlen : o.n = l.length := hS.rowL (s := o) (enc := cellsR) 0 qY (by decide) rfl
 refine enter (n := 26) Try.func37 code37 (by kernel_rfl) (Nat.le_of_ble_eq_true rfl) (fun a ha => ?_)
 replace ha : Has 26 [(0, .slice o.A o.n o.c), (1, iv k0)] a := ha
 refine wp_seq (jX [0] (jQ [(0, 4, iv 0)] ha fun a ha => ?_))
 refine jY (jJ (wp_seq (wp_seq (jX [0] (jQ [(0, 5, iv 0)] ha fun a ha => ?_)))))
 refine jY (jJ (wp_block ?_))
 replace hS : Sat w0 w ((SX.row (.slice o.A o.n o.c) 96 2 (encR (mkR k0 0 ++ l.drop 0))) :: Rs) := hS
 refine wp_loop_ghost (fun n_ a_ w_ => ∃ (i : Nat) (k : Int), n_ = l.length - i ∧ (i ≤ l.length) ∧ (k = k0 + 2 * (i : Int)) ∧ Has 26 [(0, .slice o.A o.n o.c), (1, iv k), (5, iv (i : Int))] a_ ∧ Sat w0 w_ ((SX.row (.slice o.A o.n o.c) 96 2 (encR (mkR k0 i ++ l.drop i))) :: Rs)) _ ⟨0, k0, rfl, Nat.zero_le _, by omega, ha.keeps [0, 1, 5] _ rfl, hS⟩ ?_
 rintro n_ a w ⟨i, k, rfl, hi, hk, ha, hS⟩
 refine wp_seq (wp_seq (jX [0, 1, 2, 3] (jQ [(0, 7, iv (i : Int)), (1, 8, .slice o.A o.n o.c), (2, 9, iv (o.n : Int)), (3, 10, .bool (decide ((i : Int) < (o.n : Int))))] ha fun a ha => ?_)))
 refine jY (jJ ?_)
 by_cases c1 : (i : Int) < (o.n : Int)
 ·
  have hlt : i < l.length := by omega
  obtain ⟨z, hz⟩ := mkR_some (k0 := k0) hlt
  refine jV ha rfl (decide_eq_true c1) ?_
  refine wp_skip (jJ (wp_seq (wp_block (wp_seq (jX [0] (jQ [(0, 6, iv 0)] ha fun a ha => ?_))))))
  refine jY (jJ (wp_block ?_))
  replace hS : Sat w0 w ((SX.row (.slice o.A o.n o.c) 96 2 (encR ((mkR k0 i ++ l.drop i).set i (midP k z 0)))) :: Rs) := by rw [show midP k z 0 = z from rfl, set_same hz]; exact hS
  refine wp_loop_ghost (fun n_ a_ w_ => ∃ (j : Nat) (k2 : Int), n_ = 2 - j ∧ (j ≤ 2) ∧ (k2 = k + (j : Int)) ∧ Has 26 [(0, .slice o.A o.n o.c), (5, iv (i : Int)), (7, iv (i : Int)), (8, .slice o.A o.n o.c), (9, iv (o.n : Int)), (10, .bool (decide ((i : Int) < (o.n : Int)))), (1, iv k2), (6, iv (j : Int))] a_ ∧ Sat w0 w_ ((SX.row (.slice o.A o.n o.c) 96 2 (encR ((mkR k0 i ++ l.drop i).set i (midP k z j)))) :: Rs)) _ ⟨0, k, rfl, Nat.zero_le _, by omega, ha.keeps [0, 5, 7, 8, 9, 10, 1, 6] _ rfl, hS⟩ ?_
  rintro n_ a w ⟨j, k2, rfl, hj, hk2, ha, hS⟩
  refine wp_seq (wp_seq (jX [0, 1] (jQ [(0, 13, iv (j : Int)), (1, 14, .bool (decide ((j : Int) < 2)))] ha fun a ha => ?_)))
  refine jY (jJ ?_)
  by_cases c2 : (j : Int) < 2
  ·
   rcases ix2 c2 with rfl | rfl
   ·
    replace ha := ha.turn 6 (iv 0) rfl rfl;refine jV ha rfl (decide_eq_true c2) ?_;refine wp_skip (jJ (wp_seq (wp_block (wp_seq (jX [0, 1, 2, 3, 4, 5, 6] (jQ [(0, 17, .slice o.A o.n o.c), (1, 18, iv (i : Int)), (2, 19, iv 0), (3, 20, iv k2)] ha fun a ha => ?_))))));refine zQ (.pointer (some ⟨bk o, i * 2, none⟩)) ha (zX (s := o) (el := 96) (sz := 2) (j := i) ha (yH (t := 54) (x := 17) (y := 18) (d := 21)) rfl rfl (by kernel_rfl) (by kernel_rfl) (hS.rowA (s := o) 0 rfl (by have := (List.getElem?_eq_some_iff.1 (set_get hz (midP k z 0))).1; rw [encR_length]; omega)) (rfl) (by have h9 := hS.rowL (s := o) (enc := cellsR) 0 qY (by decide) rfl; have := (List.getElem?_eq_some_iff.1 (set_get hz (midP k z 0))).1; omega)) fun a ha => ?_;refine jQ [(5, 22, .pointer (some ⟨bk o, i * 2, none⟩))] ha fun a ha => ?_;refine jK (zG (s := o) (j := i * 2 + 0) (xs := encR ((mkR k0 i ++ l.drop i).set i (midP k z 0))) (xs' := encR ((mkR k0 i ++ l.drop i).set i (k2, (midP k z 0).2))) 0 ha (xV (t := 3) (x := 22) (y := 20)) rfl rfl rfl (by kernel_rfl) hS rfl (by have := (List.getElem?_eq_some_iff.1 (set_get hz (midP k z 0))).1; rw [encR_length]; omega) ((flat_set (enc := cellsR) (x' := (k2, (midP k z 0).2)) qY (set_get hz (midP k z 0)) (by decide) rfl).trans (by rw [List.set_set]; rfl)) (fun w a (hS : Sat w0 w ((SX.row (.slice o.A o.n o.c) 96 2 (encR ((mkR k0 i ++ l.drop i).set i (k2, (midP k z 0).2)))) :: Rs)) ha => ?_));refine jY (jJ (jX [0, 1, 2] (jQ [(0, 23, iv k2)] ha fun a ha => ?_)));refine zZ 24 (k2 + 1) ha fun a ha => ?_;refine jQ [(2, 1, iv (k2 + 1))] ha fun a ha => ?_;refine jY (in_n (jJ (jX [0, 1, 2] (jQ [(0, 15, iv 0), (1, 16, iv 1), (2, 6, iv 1)] ha fun a ha => ?_))));refine jY (jJ ?_);replace hS : Sat w0 w ((SX.row (.slice o.A o.n o.c) 96 2 (encR ((mkR k0 i ++ l.drop i).set i (midP k z (0 + 1))))) :: Rs) := by rw [mid_1 hk2]; exact hS
    exact ⟨_, by omega, 0 + 1, k2 + 1, rfl, by omega, by omega, ha.keeps [0, 5, 7, 8, 9, 10, 1, 6] _ rfl, hS⟩
   replace ha := ha.turn 6 (iv 1) rfl rfl;refine jV ha rfl (decide_eq_true c2) ?_;refine wp_skip (jJ (wp_seq (wp_block (wp_seq (jX [0, 1, 2, 3, 4, 5, 6] (jQ [(0, 17, .slice o.A o.n o.c), (1, 18, iv (i : Int)), (2, 19, iv 1), (3, 20, iv k2)] ha fun a ha => ?_))))));refine zQ (.pointer (some ⟨bk o, i * 2, none⟩)) ha (zX (s := o) (el := 96) (sz := 2) (j := i) ha (yH (t := 54) (x := 17) (y := 18) (d := 21)) rfl rfl (by kernel_rfl) (by kernel_rfl) (hS.rowA (s := o) 0 rfl (by have := (List.getElem?_eq_some_iff.1 (set_get hz (midP k z 1))).1; rw [encR_length]; omega)) (rfl) (by have h9 := hS.rowL (s := o) (enc := cellsR) 0 qY (by decide) rfl; have := (List.getElem?_eq_some_iff.1 (set_get hz (midP k z 1))).1; omega)) fun a ha => ?_;refine jQ [(5, 22, .pointer (some ⟨bk o, i * 2 + 1, none⟩))] ha fun a ha => ?_;refine jK (zG (s := o) (j := i * 2 + 1) (xs := encR ((mkR k0 i ++ l.drop i).set i (midP k z 1))) (xs' := encR ((mkR k0 i ++ l.drop i).set i ((midP k z 1).1, k2))) 0 ha (xV (t := 3) (x := 22) (y := 20)) rfl rfl rfl (by kernel_rfl) hS rfl (by have := (List.getElem?_eq_some_iff.1 (set_get hz (midP k z 1))).1; rw [encR_length]; omega) ((flat_set (enc := cellsR) (x' := ((midP k z 1).1, k2)) qY (set_get hz (midP k z 1)) (by decide) rfl).trans (by rw [List.set_set]; rfl)) (fun w a (hS : Sat w0 w ((SX.row (.slice o.A o.n o.c) 96 2 (encR ((mkR k0 i ++ l.drop i).set i ((midP k z 1).1, k2)))) :: Rs)) ha => ?_));refine jY (jJ (jX [0, 1, 2] (jQ [(0, 23, iv k2)] ha fun a ha => ?_)));refine zZ 24 (k2 + 1) ha fun a ha => ?_;refine jQ [(2, 1, iv (k2 + 1))] ha fun a ha => ?_;refine jY (in_n (jJ (jX [0, 1, 2] (jQ [(0, 15, iv 1), (1, 16, iv 2), (2, 6, iv 2)] ha fun a ha => ?_))));refine jY (jJ ?_);replace hS : Sat w0 w ((SX.row (.slice o.A o.n o.c) 96 2 (encR ((mkR k0 i ++ l.drop i).set i (midP k z (1 + 1))))) :: Rs) := by rw [mid_2 hk2]; exact hS
   exact ⟨_, by omega, 1 + 1, k2 + 1, rfl, by omega, by omega, ha.keeps [0, 5, 7, 8, 9, 10, 1, 6] _ rfl, hS⟩
  refine jW ha rfl (decide_eq_false c2) ?_
  refine wp_exit (xW (xW (in_x (in_n (jJ (jX [0, 1, 2] (jQ [(0, 11, iv (i : Int))] ha fun a ha => ?_)))))))
  refine zZ 12 ((i : Int) + 1) ha fun a ha => ?_
  refine jQ [(2, 5, iv ((i : Int) + 1))] ha fun a ha => ?_
  refine jY (jJ ?_)
  obtain rfl : j = 2 := by omega
  replace hS : Sat w0 w ((SX.row (.slice o.A o.n o.c) 96 2 (encR (mkR k0 (i + 1) ++ l.drop (i + 1)))) :: Rs) := by rw [← mkR_next hk (by omega)]; exact hS
  exact ⟨_, by omega, i + 1, k2, rfl, by omega, by omega, ha.keeps [0, 1, 5] _ rfl, hS⟩
 refine jW ha rfl (decide_eq_false c1) ?_
 refine wp_exit (xW (xW (in_x (jJ (wp_seq (jX [0, 1] (jQ [(0, 25, iv k), (1, 4, iv k)] ha fun a ha => ?_)))))))
 refine jY (jJ (wp_ret (qG ha (by kernel_rfl) (xG (t := 4) ha rfl) ?_)))
 obtain rfl : i = l.length := by omega
 rw [List.drop_length, List.append_nil] at hS
 exact ⟨by rw [hk], hS⟩
theorem code38 : Try.f38.body = some (Code.seq (cr Try.f38 0 false) (Code.seq (Code.seq (cr Try.f38 1 false) (Code.block 0 (Code.loop (Code.seq (Code.seq (cr Try.f38 2 false) (Code.cond (Operand.tmp 10) Code.skip (Code.exit 0))) (Code.seq (Code.block 1 (Code.seq (cr Try.f38 4 false) (Code.block 2 (Code.loop (Code.seq (Code.seq (cr Try.f38 5 false) (Code.cond (Operand.tmp 14) Code.skip (Code.exit 2))) (Code.seq (Code.block 3 (Code.seq (Code.seq (cr Try.f38 7 false) (Code.cond (Operand.tmp 24) (Code.seq (cr Try.f38 8 false) Code.ret) Code.skip)) (cr Try.f38 9 false))) (cr Try.f38 6 false))))))) (cr Try.f38 3 false)))))) (Code.seq (cr Try.f38 10 false) Code.ret))) := by kernel_rfl
theorem heldIntA2S_sat0 {w0 : World} {o : Sl} {n : Nat} {k0 : Int} (hra : RdE cellsR 2 w0 o (mkR k0 n)) (hl : n ≤ 4000000) (h0 : 0 ≤ k0 := by omega) (h1 : k0 ≤ 100000000 := by omega) :
  Calls Try.prog 38 #[.slice o.A o.n o.c, .int .i64 k0] w0 (Ret fun r w' => r = .int .i64 (k0 + 2 * (n : Int)) ∧ Sat w0 w' []) := by
 have hS : Sat w0 w0 [] := Sat.start w0
 have hlen := hra.len
 rw [mkR_len] at hlen
 refine enter (n := 28) Try.func38 code38 (by kernel_rfl) (Nat.le_of_ble_eq_true rfl) (fun a ha => ?_)
 replace ha : Has 28 [(0, .slice o.A o.n o.c), (1, iv k0)] a := ha
 refine wp_seq (jX [0] (jQ [(0, 4, iv 0)] ha fun a ha => ?_))
 refine jY (jJ (wp_seq (wp_seq (jX [0] (jQ [(0, 5, iv 0)] ha fun a ha => ?_)))))
 refine jY (jJ (wp_block ?_))
 refine wp_loop_ghost (fun n_ a_ w_ => ∃ (i : Nat) (k : Int), n_ = n - i ∧ (i ≤ n) ∧ (k = k0 + 2 * (i : Int)) ∧ Has 28 [(0, .slice o.A o.n o.c), (1, iv k), (5, iv (i : Int))] a_ ∧ Sat w0 w_ ([])) _ ⟨0, k0, rfl, Nat.zero_le _, by omega, ha.keeps [0, 1, 5] _ rfl, hS⟩ ?_
 rintro n_ a w ⟨i, k, rfl, hi, hk, ha, hS⟩
 refine wp_seq (wp_seq (jX [0, 1, 2, 3] (jQ [(0, 7, iv (i : Int)), (1, 8, .slice o.A o.n o.c), (2, 9, iv (o.n : Int)), (3, 10, .bool (decide ((i : Int) < (o.n : Int))))] ha fun a ha => ?_)))
 refine jY (jJ ?_)
 by_cases c1 : (i : Int) < (o.n : Int)
 ·
  have hlt : i < n := by omega
  refine jV ha rfl (decide_eq_true c1) ?_
  refine wp_skip (jJ (wp_seq (wp_block (wp_seq (jX [0] (jQ [(0, 6, iv 0)] ha fun a ha => ?_))))))
  refine jY (jJ (wp_block ?_))
  refine wp_loop_ghost (fun n_ a_ w_ => ∃ (j : Nat) (k2 : Int), n_ = 2 - j ∧ (j ≤ 2) ∧ (k2 = k + (j : Int)) ∧ Has 28 [(0, .slice o.A o.n o.c), (5, iv (i : Int)), (7, iv (i : Int)), (8, .slice o.A o.n o.c), (9, iv (o.n : Int)), (10, .bool (decide ((i : Int) < (o.n : Int)))), (1, iv k2), (6, iv (j : Int))] a_ ∧ Sat w0 w_ ([])) _ ⟨0, k, rfl, Nat.zero_le _, by omega, ha.keeps [0, 5, 7, 8, 9, 10, 1, 6] _ rfl, hS⟩ ?_
  rintro n_ a w ⟨j, k2, rfl, hj, hk2, ha, hS⟩
  refine wp_seq (wp_seq (jX [0, 1] (jQ [(0, 13, iv (j : Int)), (1, 14, .bool (decide ((j : Int) < 2)))] ha fun a ha => ?_)))
  refine jY (jJ ?_)
  by_cases c2 : (j : Int) < 2
  ·
   rcases ix2 c2 with rfl | rfl
   ·
    replace ha := ha.turn 6 (iv 0) rfl rfl;refine jV ha rfl (decide_eq_true c2) ?_;refine wp_skip (jJ (wp_seq (wp_block (wp_seq (wp_seq (jX [0, 1, 2, 3, 4, 5, 6, 7] (jQ [(0, 17, .slice o.A o.n o.c), (1, 18, iv (i : Int)), (2, 19, iv 0)] ha fun a ha => ?_)))))));refine zQ (.pointer (some ⟨bk o, of_ o + i * 2, none⟩)) ha (kY (el := 96) (sz := 2) (j := i) ha (yH (t := 54) (x := 17) (y := 18) (d := 20)) rfl rfl (by kernel_rfl) (by kernel_rfl) (RdE.at_ (hra.sat hS) _ _ (mkR_at (k0 := k0) (k := k2) (n := n) (by omega) hlt)).1 (rfl) (by rw [((hra.sat hS)).len]; exact (List.getElem?_eq_some_iff.1 (mkR_at (k0 := k0) (k := k2) (n := n) (by omega) hlt)).1)) fun a ha => ?_;refine jQ [(4, 21, .pointer (some ⟨bk o, of_ o + i * 2, none⟩))] ha fun a ha => ?_;refine zQ (iv k2) ha (zU ha (zV (t := 3) (x := 21) (d := 22) (ty := 3)) rfl (by kernel_rfl) (fun w' hw => by rw [hw]; exact (RdE.at_ (hra.sat hS) _ _ (mkR_at (k0 := k0) (k := k2) (n := n) (by omega) hlt)).2 0 _ rfl)) fun a ha => ?_;refine jQ [(6, 23, iv k2)] ha fun a ha => ?_;refine zQ (.bool false) ha ((qZ (v := .bool (!(decide (k2 = k2)))) ha (yU (op := (Op.binOp BinOp.neq 3 (Operand.tmp 22) (Operand.tmp 23) 3)) (d := some 24) (ty := 4)) (by kernel_rfl) (fun _ => by kernel_rfl)).as (by simp)) fun a ha => ?_;refine jY (jJ ?_);refine jW ha rfl rfl ?_;refine wp_skip (jJ (jX [0, 1, 2] (jQ [(0, 25, iv k2)] ha fun a ha => ?_)));refine zZ 26 (k2 + 1) ha fun a ha => ?_;refine jQ [(2, 1, iv (k2 + 1))] ha fun a ha => ?_;refine jY (in_n (jJ (jX [0, 1, 2] (jQ [(0, 15, iv 0), (1, 16, iv 1), (2, 6, iv 1)] ha fun a ha => ?_))));refine jY (jJ ?_);exact ⟨_, by omega, 0 + 1, k2 + 1, rfl, by omega, by omega, ha.keeps [0, 5, 7, 8, 9, 10, 1, 6] _ rfl, hS⟩
   replace ha := ha.turn 6 (iv 1) rfl rfl;refine jV ha rfl (decide_eq_true c2) ?_;refine wp_skip (jJ (wp_seq (wp_block (wp_seq (wp_seq (jX [0, 1, 2, 3, 4, 5, 6, 7] (jQ [(0, 17, .slice o.A o.n o.c), (1, 18, iv (i : Int)), (2, 19, iv 1)] ha fun a ha => ?_)))))));refine zQ (.pointer (some ⟨bk o, of_ o + i * 2, none⟩)) ha (kY (el := 96) (sz := 2) (j := i) ha (yH (t := 54) (x := 17) (y := 18) (d := 20)) rfl rfl (by kernel_rfl) (by kernel_rfl) (RdE.at_ (hra.sat hS) _ _ (mkR_at1 (k0 := k0) (k := k2) (n := n) (by omega) hlt)).1 (rfl) (by rw [((hra.sat hS)).len]; exact (List.getElem?_eq_some_iff.1 (mkR_at1 (k0 := k0) (k := k2) (n := n) (by omega) hlt)).1)) fun a ha => ?_;refine jQ [(4, 21, .pointer (some ⟨bk o, of_ o + i * 2 + 1, none⟩))] ha fun a ha => ?_;refine zQ (iv k2) ha (zU ha (zV (t := 3) (x := 21) (d := 22) (ty := 3)) rfl (by kernel_rfl) (fun w' hw => by rw [hw]; exact (RdE.at_ (hra.sat hS) _ _ (mkR_at1 (k0 := k0) (k := k2) (n := n) (by omega) hlt)).2 1 _ rfl)) fun a ha => ?_;refine jQ [(6, 23, iv k2)] ha fun a ha => ?_;refine zQ (.bool false) ha ((qZ (v := .bool (!(decide (k2 = k2)))) ha (yU (op := (Op.binOp BinOp.neq 3 (Operand.tmp 22) (Operand.tmp 23) 3)) (d := some 24) (ty := 4)) (by kernel_rfl) (fun _ => by kernel_rfl)).as (by simp)) fun a ha => ?_;refine jY (jJ ?_);refine jW ha rfl rfl ?_;refine wp_skip (jJ (jX [0, 1, 2] (jQ [(0, 25, iv k2)] ha fun a ha => ?_)));refine zZ 26 (k2 + 1) ha fun a ha => ?_;refine jQ [(2, 1, iv (k2 + 1))] ha fun a ha => ?_;refine jY (in_n (jJ (jX [0, 1, 2] (jQ [(0, 15, iv 1), (1, 16, iv 2), (2, 6, iv 2)] ha fun a ha => ?_))));refine jY (jJ ?_);exact ⟨_, by omega, 1 + 1, k2 + 1, rfl, by omega, by omega, ha.keeps [0, 5, 7, 8, 9, 10, 1, 6] _ rfl, hS⟩
  refine jW ha rfl (decide_eq_false c2) ?_
  refine wp_exit (xW (xW (in_x (in_n (jJ (jX [0, 1, 2] (jQ [(0, 11, iv (i : Int))] ha fun a ha => ?_)))))))
  refine zZ 12 ((i : Int) + 1) ha fun a ha => ?_
  refine jQ [(2, 5, iv ((i : Int) + 1))] ha fun a ha => ?_
  refine jY (jJ ?_)
  obtain rfl : j = 2 := by omega
  exact ⟨_, by omega, i + 1, k2, rfl, by omega, by omega, ha.keeps [0, 1, 5] _ rfl, hS⟩
 refine jW ha rfl (decide_eq_false c1) ?_
 refine wp_exit (xW (xW (in_x (jJ (wp_seq (jX [0, 1] (jQ [(0, 27, iv k), (1, 4, iv k)] ha fun a ha => ?_)))))))
 refine jY (jJ (wp_ret (qG ha (by kernel_rfl) (xG (t := 4) ha rfl) ?_)))
 obtain rfl : i = n := by omega
 exact ⟨by rw [hk], hS⟩
theorem heldIntA2S_sat {w0 w : World} {Rs : List Asn} {o : Sl} {n : Nat} {k0 : Int} (hS : Sat w0 w Rs) (hra : RdE cellsR 2 w o (mkR k0 n)) (hl : n ≤ 4000000) (h0 : 0 ≤ k0 := by omega) (h1 : k0 ≤ 100000000 := by omega) :
  Calls Try.prog 38 #[.slice o.A o.n o.c, .int .i64 k0] w (Ret fun r w' => r = .int .i64 (k0 + 2 * (n : Int)) ∧ Sat w0 w' Rs) := lift0 hS (heldIntA2S_sat0 hra hl h0 h1)
end Go.Proofs.Ytjkoibfkklhaiaa.G
