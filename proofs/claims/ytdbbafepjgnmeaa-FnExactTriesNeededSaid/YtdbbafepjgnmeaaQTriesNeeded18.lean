/- What the claim FnExactTriesNeeded rests on, part 18 of 19; the last part proves it: for every input the law answers true, and its arguments read behind the call as before it. No condition. -/
import Derived.Test.YtdbbafepjgnmeaaQTriesNeeded7
import Derived.Test.YtdbbafepjgnmeaaQTriesNeeded8
import Derived.Test.YtdbbafepjgnmeaaQTriesNeeded12
import Derived.Test.YtdbbafepjgnmeaaQTriesNeeded14
import Derived.Test.YtdbbafepjgnmeaaQTriesNeeded15
import Derived.Test.YtdbbafepjgnmeaaQTriesNeeded17
section
namespace Go.Proofs.Ytdbbafepjgnmeaa
namespace SX
open Go.RowKit Go.Proofs.Ytdbbafepjgnmeaa.G Go.Proofs.YtdbbafepjgnmeaaW.PrintWords Go.Proofs.YtdbbafepjgnmeaaW.PrintLast Go.Proofs.YtdbbafepjgnmeaaW.PrintMore
set_option linter.unusedVariables false
set_option linter.unusedSimpArgs false
abbrev GS := S144
def toStp (x : GS) : Stp := ⟨x.f0, x.f1, x.f2⟩
def PL (l : List (List GS)) : List (List Stp) := l.map (·.map toStp)
theorem PL_length (l : List (List GS)) : (PL l).length = l.length := by simp [PL]
theorem stepB_ok {n : Nat} {k a b : Int} (h : stepB n k a b = true) : StpOk n ⟨k, a, b⟩ := by
  simp only [stepB, Bool.and_eq_true, decide_eq_true_eq] at h
  obtain ⟨⟨⟨h1, h2⟩, h3⟩, h4⟩ := h
  refine ⟨h1, h2, fun n4 n5 n10 n11 => ?_, fun hk => ?_, fun hk => ?_, fun hk => ?_, fun hk => ?_⟩
  · dsimp only at n4 n5 n10 n11 ⊢
    rw [if_neg (by omega), if_neg n11, if_neg n10] at h3
    simp only [regB, Bool.and_eq_true, decide_eq_true_eq] at h3
    exact h3
  · dsimp only at hk ⊢
    rw [if_neg (by omega), if_pos hk] at h4
    simp only [regB, Bool.and_eq_true, decide_eq_true_eq] at h4
    exact h4
  · dsimp only at hk ⊢
    rw [if_pos hk] at h3
    simp only [Bool.and_eq_true, decide_eq_true_eq] at h3
    omega
  · dsimp only at hk ⊢
    rw [if_neg (by omega), if_pos hk] at h3
    simp only [Bool.and_eq_true, decide_eq_true_eq] at h3
    exact h3
  · dsimp only at hk ⊢
    rw [if_pos hk] at h4
    simp only [numB, Bool.and_eq_true, decide_eq_true_eq] at h4
    exact h4
theorem progOk_of {l : List (List GS)} (h : programB l = true) : ProgOk (PL l) := by
  simp only [programB, bodyB, Bool.and_eq_true, decide_eq_true_eq, List.all_eq_true] at h
  obtain ⟨⟨h1, h2⟩, h3⟩ := h
  refine ⟨by rw [PL_length]; exact h1, by rw [PL_length]; exact h2, fun b hb => ?_, fun b hb s hs => ?_⟩
  · obtain ⟨b', hb', rfl⟩ := List.mem_map.1 hb
    rw [List.length_map]
    exact (h3 b' hb').1
  · obtain ⟨b', hb', rfl⟩ := List.mem_map.1 hb
    obtain ⟨s', hs', rfl⟩ := List.mem_map.1 hs
    rw [PL_length]
    exact stepB_ok ((h3 b' hb').2 s' hs')
theorem cell_lt {w : World} {p : Addr} {v : Value} (h : w.cell? p = some v) : p.block < w.heap.size := by
 unfold World.cell? at h
 split at h
 · rename_i h'; exact (Array.getElem?_eq_some_iff.1 h').1
 · cases h
theorem cell_below {w w' : World} {p : Addr} {v : Value} (h : w.cell? p = some v) (hb : Below w.heap.size w w') : w'.cell? p = some v := by
 rw [← h]
 unfold World.cell?
 rw [hb.block _ (cell_lt h)]
theorem RdBody.below {w w' : World} {s : Sl} {b : List Stp} (h : RdBody w s b) (hb : Below w.heap.size w w') : RdBody w' s b := ⟨h.len, h.A, fun j x hx => cell_below (h.k j x hx) hb, fun j x hx => cell_below (h.a j x hx) hb, fun j x hx => cell_below (h.b j x hx) hb⟩
theorem RdProg.below {w w' : World} {pv : Sl} {sbs : List Sl} {P : List (List Stp)} (h : RdProg w pv sbs P) (hb : Below w.heap.size w w') : RdProg w' pv sbs P :=
 ⟨h.len, h.A, fun i b hi => let ⟨s, h1, h2, h3⟩ := h.rows i b hi; ⟨s, h1, cell_below h2 hb, h3.below hb⟩⟩
theorem RdProg.keeps {w : World} {pv : Sl} {sbs : List Sl} {P : List (List Stp)} (h : RdProg w pv sbs P) (Rs : List Asn) : Keeps w Rs (fun w => RdProg w pv sbs P) := fun w' hS => h.below hS.below
theorem rdBody_of {w : World} {A : Option Addr} {c : Nat} {l : List GS} (hr : Kd.C k144 w A l.length l) : RdBody w ⟨A, l.length, c⟩ (l.map toStp) := by
  obtain ⟨_, _, h3⟩ := hr
  have key : ∀ (j : Nat) (x : GS), l[j]? = some x → A = some ⟨bk ⟨A, l.length, c⟩, of_ ⟨A, l.length, c⟩, none⟩ ∧ ∀ i u, (encT x)[i]? = some u → w.cell? ⟨bk ⟨A, l.length, c⟩, of_ ⟨A, l.length, c⟩ + j * 3 + i, none⟩ = some u := by
    intro j x hj
    have hjl : j < l.length := (List.getElem?_eq_some_iff.1 hj).1
    obtain ⟨ad, hA, hcells⟩ := h3 (by omega)
    have key : ∀ (j : Nat) (x : GS), l[j]? = some x → ∀ i u, (encT x)[i]? = some u → w.cell? (ad.add (j * 3 + i)) = some u := fun j x hj i u hu => by
      obtain ⟨cs, _, hk, hu'⟩ := hcells j x hj
      rw [k144_open hk] at hu'
      exact hu' i u hu
    have h0 := key 0 _ (List.getElem?_eq_getElem (by omega)) 0 _ rfl
    have hspot := spot_of_cell h0
    obtain ⟨b, off, sp⟩ := ad
    subst hspot
    subst hA
    refine ⟨rfl, fun i u hu => ?_⟩
    have := key j x hj i u hu
    rw [add0, ← Nat.add_assoc] at this
    exact this
  have get : ∀ (j : Nat) (x : Stp), (l.map toStp)[j]? = some x → ∃ y : GS, l[j]? = some y ∧ toStp y = x := fun j x hx => by
    rw [List.getElem?_map] at hx
    exact Option.map_eq_some_iff.1 hx
  refine ⟨by simp, fun hp => ?_, fun j x hx => ?_, fun j x hx => ?_, fun j x hx => ?_⟩
  · rw [List.length_map] at hp
    exact (key 0 _ (List.getElem?_eq_getElem hp)).1
  · obtain ⟨y, hy, rfl⟩ := get j x hx
    exact (key j y hy).2 0 _ rfl
  · obtain ⟨y, hy, rfl⟩ := get j x hx
    exact (key j y hy).2 1 _ rfl
  · obtain ⟨y, hy, rfl⟩ := get j x hx
    exact (key j y hy).2 2 _ rfl
theorem rdProg_of {w : World} {A : Option Addr} {c : Nat} {l : List (List GS)} (hr : Kd.C (Kd.slice 144 k144) w A l.length l) : ∃ sbs, RdProg w ⟨A, l.length, c⟩ sbs (PL l) := by
  have hb := bodies_cells (s := ⟨A, l.length, c⟩) hr
  have hs : ∀ j : Nat, ∃ s : Sl, ∀ b, l[j]? = some b → w.cell? ⟨bk ⟨A, l.length, c⟩, of_ ⟨A, l.length, c⟩ + j, none⟩ = some s.v ∧ RdBody w s (b.map toStp) := by
    intro j
    cases hj : l[j]? with
    | none => exact ⟨⟨none, 0, 0⟩, fun b h => by cases h⟩
    | some b =>
      obtain ⟨_, A', c', h1, h2, h3⟩ := hb j b hj
      exact ⟨⟨A', b.length, c'⟩, fun b' h => by cases h; exact ⟨h1, rdBody_of h3⟩⟩
  have hs2 : ∃ f : Nat → Sl, ∀ j b, l[j]? = some b → w.cell? ⟨bk ⟨A, l.length, c⟩, of_ ⟨A, l.length, c⟩ + j, none⟩ = some (f j).v ∧ RdBody w (f j) (b.map toStp) := ⟨fun j => (hs j).choose, fun j => (hs j).choose_spec⟩
  obtain ⟨f, hf⟩ := hs2
  refine ⟨(List.range l.length).map f, (PL_length l).symm, fun hp => ?_, fun i b hi => ?_⟩
  · rw [PL_length] at hp
    exact (hb 0 _ (List.getElem?_eq_getElem hp)).1
  · rw [PL, List.getElem?_map] at hi
    obtain ⟨y, hy, rfl⟩ := Option.map_eq_some_iff.1 hi
    have hlt := (List.getElem?_eq_some_iff.1 hy).1
    exact ⟨f i, by rw [List.getElem?_map, List.getElem?_range hlt]; rfl, hf i y hy⟩
section
variable {w0 w : World} {Rs : List Asn}
theorem drawn_sat (hS : Sat w0 w Rs) {w' : World} (h : Drawn0 w w') : Sat w0 w' Rs := by
 obtain ⟨q, rfl⟩ := h.out
 exact hS.grows ⟨rfl, rfl, rfl, Nat.le_refl _, fun _ _ => rfl⟩
def inB (x lo hi : Int) : Bool := decide (lo ≤ x) && decide (x ≤ hi)
theorem in_sat (hS : Sat w0 w Rs) (x lo hi : Int) : Calls Try.prog 58 #[.int .i64 x, .int .i64 lo, .int .i64 hi] w (Ret fun r w' => r = .bool (inB x lo hi) ∧ Sat w0 w' Rs) := by
 refine (impl_in.calls x lo hi _ w (in_eq x lo hi)).mono ?_
 rintro e w' ⟨rfl, hd⟩
 exact ⟨rfl, drawn_sat hS hd⟩
theorem num_sat (hS : Sat w0 w Rs) (x : Int) : Calls Try.prog 72 #[.int .i64 x] w (Ret fun r w' => r = .bool (numB x) ∧ Sat w0 w' Rs) := by
 refine (impl_isNumber.calls x _ w (num_eq x)).mono ?_
 rintro e w' ⟨rfl, hd⟩
 exact ⟨rfl, drawn_sat hS hd⟩
theorem prog_sat (hS : Sat w0 w Rs) {A : Option Addr} {c : Nat} {l : List (List GS)} (hr : Kd.C (Kd.slice 144 k144) w A l.length l) (hc : l.length ≤ c) : Calls Try.prog 96 #[.agg #[.slice A l.length c]] w (Ret fun r w' => r = .bool (programB l) ∧ Sat w0 w' Rs) := by
 refine (impl_IsProgram.calls A c l _ w hr hc rfl).mono ?_
 rintro e w' ⟨rfl, hb⟩
 exact ⟨rfl, hS.grows hb⟩
end
structure RunR where
 m : MS
 k : Int
 v : Int
def runOf (res : R3) : RunR := match res with
 | .spent m => ⟨m, 4, 0⟩
 | .done m f _ => ⟨if f.en = 2 then { m with panics := panAt m.panics f.pan (fun x => { x with fate := 3 }) } else m, f.en, (m.calls.getD 0 ⟨0, 0, false, 0, 0, 0⟩).val⟩
def runS (P : List (List Stp)) (shared f arg fuel : Int) : RunR := runOf (callS P fuel 8 (MS.start shared) f arg none 0 false)
def askB (l : List (List GS)) (f arg fuel : Int) : Bool := programB l && inB f 0 ((l.length : Int) - 1) && numB arg && inB fuel 0 200
theorem start_ok {fuel : Int} (shared : Int) (h0 : 0 ≤ fuel) (h1 : fuel ≤ 200) : OkM fuel (MS.start shared) (10 + 2) := by
 refine ⟨Int.le_refl _, h0, h1, ?_, rfl, Nat.le_refl _, Nat.le_refl _, Nat.le_refl _, fun p hp => by simp [MS.start] at hp⟩
 simp only [MS.start, List.length_nil]
 omega
def mblkO (pv : Sl) (fuel : Int) (m : MS) (s : MSl) (k v : Int) : List Value :=
 [pv.v, .int .i64 fuel, .int .i64 m.made, .int .i64 m.shared, .int .i64 m.depth, .int .i64 m.deepest, s.tr.v, s.ow.v, s.ca.v, s.pa.v, s.re.v, .map (some s.bp), .int .i64 k, .int .i64 v, s.tr.v, .int .i64 m.made]
def mchOL (b : Nat) (pv : Sl) (fuel : Int) (r : RunR) (s : MSl) : List Asn := blk b (mblkO pv fuel r.m s r.k r.v) 73 :: mrest r.m s
def mchO (b : Nat) (pv : Sl) (fuel : Int) (r : RunR) : Asn := exA fun s : { s : MSl // s.us.map (·.1) = r.m.panics } => starL (mchOL b pv fuel r s.1)
theorem Sat.openMO {w0 w : World} {Rs : List Asn} {b : Nat} {pv : Sl} {fuel : Int} {r : RunR} (h : Sat w0 w (mchO b pv fuel r :: Rs)) : ∃ s : MSl, s.us.map (·.1) = r.m.panics ∧ Sat w0 w (mchOL b pv fuel r s ++ Rs) := by
 obtain ⟨⟨s, hs⟩, h⟩ := h.open_ 0 rfl
 exact ⟨s, hs, h.split⟩
theorem Sat.shutMO {w0 w : World} {Rs : List Asn} {b : Nat} {pv : Sl} {fuel : Int} {r : RunR} (s : MSl) (hs : s.us.map (·.1) = r.m.panics) (h : Sat w0 w (mchOL b pv fuel r s ++ Rs)) : Sat w0 w (mchO b pv fuel r :: Rs) := h.merge.shut (R := fun s : { s : MSl // s.us.map (·.1) = r.m.panics } => starL (mchOL b pv fuel r s.1)) ⟨s, hs⟩ 0 rfl
section
variable {P : Program} {R : Array Oper} {Q : Exit → Act → World → Prop} {n : Nat} {e : Env} {a : Act} {w w0 : World} {Rs : List Asn}
theorem o_makeMap {i d : Nat} {t ty : TypeId} {K : Act → World → Prop} (h : Has n e a) (hd : d < n) (ho : AtW R i (.makeMap t none) (some d) ty a) (hS : Sat w0 w Rs)
  (k : ∀ b w' a', w0.heap.size ≤ b → Sat w0 w' (mapA b [] :: Rs) → Has n ((d, .map (some b)) :: e) a' → K a' w') : wpOp P R Q i K a w := by
 refine o_val (v := .map (some w.heap.size)) (w' := w.alloc (.map #[] 0)) h hd ho (by simp [covers, Op.operands, notSelect]) (by simp [execOp, opr, Instr.makeMap]) fun a' ha => k w.heap.size _ a' hS.below.size ?_ ha
 have h1 := hS.allocO (.map #[] 0)
 exact h1.shut (R := fun x : { x : Array MapEntry × Nat // MapIs x.1 [] } => SX.obj w.heap.size (.map x.1.1 x.1.2)) ⟨(#[], 0), ⟨fun x hx => by simp at hx, fun p hp => by simp at hp, by simp, fun p hp => by simp at hp⟩⟩ 0 rfl
end
theorem mch_start {w0 w : World} {Rs : List Asn} {bm bp : Nat} {pv : Sl} {fuel shared : Int} (h : Sat w0 w (SX.blk bm [pv.v, .int .i64 fuel, .int .i64 0, .int .i64 shared, .int .i64 0, .int .i64 0, .slice none 0 0, .slice none 0 0, .slice none 0 0, .slice none 0 0, .slice none 0 0, .map (some bp), .int .i64 0, .int .i64 0, .slice none 0 0, .int .i64 0] 73 :: mapA bp [] :: Rs)) :
  Sat w0 w (mch bm pv fuel (MS.start shared) :: Rs) := by
 have h1 := Sat.nilRow (T := 63) (sz := 3) h
 have h2 := Sat.nilRow (T := 3) (sz := 1) h1
 have h3 := Sat.nilRow (T := 138) (sz := 6) h2
 have h4 := Sat.nilRow (T := 140) (sz := 9) h3
 have h5 := Sat.nilRow (T := 177) (sz := 3) h4
 have h6 : Sat w0 w (starL [] :: row (.slice none 0 0) 177 3 [] :: row (.slice none 0 0) 140 9 [] :: row (.slice none 0 0) 138 6 [] :: row (.slice none 0 0) 3 1 [] :: row (.slice none 0 0) 63 3 [] :: _ :: _ :: Rs) := Sat.merge (l := []) h5
 refine Sat.shutM ⟨⟨none, 0, 0⟩, ⟨none, 0, 0⟩, ⟨none, 0, 0⟩, ⟨none, 0, 0⟩, ⟨none, 0, 0⟩, [], bp⟩ rfl ?_
 exact h6.pickR (l := [_, _, _, _, _, _, _, _]) [6, 5, 4, 3, 2, 0, 1, 7] (by decide) _ rfl
theorem first_done {P : List (List Stp)} (hP : ProgOk P) {fuel : Int} {bm : Nat} {pv : Sl} {sbs : List Sl} {w0 w : World} {Rs : List Asn} {m : MS} {fn arg : Int} {x : Nat} (hS : Sat w0 w (mch bm pv fuel m :: Rs)) (hm : OkM fuel m (x + 2)) (hdep : m.depth = 0) (h0 : 0 ≤ fn) (h1 : fn < P.length) (hPr : Keeps w0 Rs (fun w => RdProg w pv sbs P)) {m1 : MS} {f1 : FS} {o1 : Int} (hr : callS P fuel 8 m fn arg none 0 false = .done m1 f1 o1) :
    Calls Try.prog 97 #[.pointer (some ⟨bm, 0, none⟩), .int .i64 fn, .int .i64 arg] w (Ret fun v w' => ∃ bd, v = .pointer (some ⟨bd, 0, none⟩) ∧ Sat w0 w' (mch bm pv fuel m1 :: frm bd f1 (.pointer none) :: Rs)) := by
  have h := first_calls P hP fuel bm pv sbs w0 w Rs m fn arg x hS hm hdep h0 h1 hPr
  rw [hr] at h
  refine h.mono fun e w' h2 => ?_
  cases e with
  | returned v =>
    rcases h2 with ⟨m', f', o', bd, hh, rfl, h4⟩ | ⟨m', hh, _⟩
    · injection hh with e1 e2 e3
      subst e1 e2 e3
      exact ⟨bd, rfl, h4⟩
    · cases hh
  | panicked c => exact h2
  | outgrown => exact h2
theorem first_spent {P : List (List Stp)} (hP : ProgOk P) {fuel : Int} {bm : Nat} {pv : Sl} {sbs : List Sl} {w0 w : World} {Rs : List Asn} {m : MS} {fn arg : Int} {x : Nat} (hS : Sat w0 w (mch bm pv fuel m :: Rs)) (hm : OkM fuel m (x + 2)) (hdep : m.depth = 0) (h0 : 0 ≤ fn) (h1 : fn < P.length) (hPr : Keeps w0 Rs (fun w => RdProg w pv sbs P)) {m1 : MS} (hr : callS P fuel 8 m fn arg none 0 false = .spent m1) :
    Calls Try.prog 97 #[.pointer (some ⟨bm, 0, none⟩), .int .i64 fn, .int .i64 arg] w (Ret fun v w' => v = .pointer none ∧ Sat w0 w' (mch bm pv fuel m1 :: Rs)) := by
  have h := first_calls P hP fuel bm pv sbs w0 w Rs m fn arg x hS hm hdep h0 h1 hPr
  rw [hr] at h
  refine h.mono fun e w' h2 => ?_
  cases e with
  | returned v =>
    rcases h2 with ⟨m', f', o', bd, hh, _⟩ | ⟨m', hh, rfl, h4⟩
    · cases hh
    · injection hh with e1
      subst e1
      exact ⟨rfl, h4⟩
  | panicked c => exact h2
  | outgrown => exact h2
end SX
end Go.Proofs.Ytdbbafepjgnmeaa
end
section
namespace Go.Proofs.Ytdbbafepjgnmeaa
namespace SX
open Go.RowKit
set_option linter.unusedVariables false
set_option linter.unusedSimpArgs false
open Go.Proofs.Ytdbbafepjgnmeaa.G Go.Proofs.YtdbbafepjgnmeaaW.PrintWords Go.Proofs.YtdbbafepjgnmeaaW.PrintLast Go.Proofs.YtdbbafepjgnmeaaW.PrintMore
theorem code73 : Try.f73.body = some (Code.seq (Code.region 0 (regOf Try.f73 0) false) (Code.seq (Code.seq (Code.region 1 (regOf Try.f73 1) false) (Code.cond (Operand.tmp 35) (Code.seq (Code.region 2 (regOf Try.f73 2) false) Code.ret) Code.skip)) (Code.seq (Code.region 3 (regOf Try.f73 3) false) (Code.seq (Code.region 4 (regOf Try.f73 4) false) (Code.seq (Code.region 5 (regOf Try.f73 5) true) (Code.seq (Code.seq (Code.region 6 (regOf Try.f73 6) false) (Code.cond (Operand.tmp 59) (Code.seq (Code.region 7 (regOf Try.f73 7) true) (Code.seq (Code.region 8 (regOf Try.f73 8) false) (Code.cond (Operand.tmp 84) (Code.region 9 (regOf Try.f73 9) true) Code.skip))) Code.skip)) (Code.seq (Code.region 10 (regOf Try.f73 10) false) Code.ret))))))) := by kernel_rfl
set_option maxRecDepth 20000 in
set_option maxHeartbeats 1000000 in
theorem ranFrom_bad (w0 : World) (pv : Sl) (l : List (List GS)) (f arg fuel shared : Int) (hn : pv.n = l.length) (hr : Kd.C (Kd.slice 144 k144) w0 pv.A l.length l) (hc : l.length ≤ pv.c) (hask : askB l f arg fuel = false) :
  Calls Try.prog 73 #[.agg #[pv.v], .int .i64 f, .int .i64 arg, .int .i64 fuel, .int .i64 shared] w0 (Ret fun r w' => r = .tuple #[.pointer none, .bool false] ∧ Sat w0 w' []) := by
 have hl : l.length ≤ 9223372036854775807 := hr.2.1
 have hrd : ∀ {w' : World} {Rs' : List Asn}, Sat w0 w' Rs' → Kd.C (Kd.slice 144 k144) w' pv.A l.length l := fun h => Kd.C_below hr h.below
 have hS := Sat.start w0
 refine enter (n := 96) Try.func73 code73 (by kernel_rfl) (Nat.le_of_ble_eq_true rfl) (fun a ha => ?_)
 replace ha : Has 96 [(0, .agg #[.slice pv.A pv.n pv.c]), (1, iv f), (2, iv arg), (3, iv fuel), (4, iv shared)] a := ha
 refine wp_seq ?_
 refine p_beginL [0, 1, 2] ?_
 refine p_op (o_new (cs := [.slice pv.A pv.n pv.c]) (T := 31) (fun b => .pointer (some ⟨b, 0, none⟩)) ha (by decide) (iAt (op := (Op.box 31 (Operand.tmp 0))) (d := some 5) (ty := 0)) (by kernel_rfl) hS (fun _ => by kernel_rfl) fun b1 w a hb2 hS ha => ?_)
 refine p_run [(1, 10, .pointer none), (2, 11, .bool false)] ha fun a ha => ?_
 refine p_end ?_
 refine then_n ?_
 refine wp_seq ?_
 refine wp_seq ?_
 refine p_beginL [0, 1, 2, 3, 4, 5, 6, 7, 8, 9, 10, 11, 12, 13, 14, 15, 16, 17, 18, 19, 20, 21] ?_
 refine p_val ha (by decide) (v_loadW ha (iAt (op := (Op.load 31 (Operand.tmp 5))) (d := some 14) (ty := 31)) rfl (by kernel_rfl) (fun _ hw => by rw [hw]; exact hS.blk 0 rfl)) (fun a ha => ?_)
 refine p_op (o_ret (Post := fun r_ w' => r_ = .bool (programB l) ∧ Sat w0 w' ((SX.blk b1 [.slice pv.A pv.n pv.c] 31) :: [])) ha (by decide) (iAt (op := (Op.call { callee := (Callee.value (Operand.func 96)), args := #[(Operand.tmp 14)], argTypes := #[31] })) (d := some 15) (ty := 4)) rfl Try.func96 (by kernel_rfl) (by have h9 := prog_sat (A := pv.A) (c := pv.c) hS (hrd hS) hc; rw [← hn] at h9; exact h9) (fun v3 w a hp4 ha => ?_))
 obtain ⟨rfl, hS⟩ := hp4
 have ha : Has 96 [(1, iv f), (2, iv arg), (3, iv fuel), (4, iv shared), (5, ptr b1 0), (10, .pointer none), (11, .bool false), (14, .agg #[.slice pv.A pv.n pv.c]), (15, .bool (programB l))] a := ha.keeps [1, 2, 3, 4, 5, 10, 11, 14, 15] _ rfl
 refine p_run [(2, 16, .bool (!((programB l)))), (3, 17, .bool (!((programB l))))] ha fun a ha => ?_
 rcases Bool.eq_false_or_eq_true (programB l) with c5 | c5
 ·
  replace ha := ha.turn 15 (.bool true) rfl (congrArg Value.bool c5)
  replace ha := ha.turn 16 (.bool false) rfl (congrArg Value.bool (not_ff c5))
  replace ha := ha.turn 17 (.bool false) rfl (congrArg Value.bool (not_ff c5))
  refine p_run [(4, 18, iv f), (5, 19, ptr b1 0)] ha fun a ha => ?_
  refine p_ld (d := 20) (b := b1) (j := 0) ha (hS.blk 0 rfl) rfl fun a ha => ?_
  refine p_run [(7, 21, iv (pv.n : Int))] ha fun a ha => ?_
  refine p_val (v := iv ((pv.n : Int) - 1)) ha (by decide) ((v_pure (v := .int .i64 (IntKind.i64.wrap ((pv.n : Int) - 1))) ha (AtG.here (gd := 17) ⟨(by kernel_rfl : ((regOf Try.f73 1)[8]?).map spec = some ((Op.binOp BinOp.sub 3 (Operand.tmp 21) (Operand.const (Value.int IntKind.i64 1)) 3), some 22, 3, some (3, false))), by kernel_rfl⟩ ha rfl) (by kernel_rfl) (fun _ => by kernel_rfl)).as (by rw [wrap_i64 (by omega) (by omega)])) (fun a ha => ?_)
  refine p_op (o_ret ha (by decide) (AtG.here (gd := 17) ⟨(by kernel_rfl : ((regOf Try.f73 1)[9]?).map spec = some ((Op.call { callee := (Callee.value (Operand.func 58)), args := #[(Operand.tmp 18), (Operand.const (Value.int IntKind.i64 0)), (Operand.tmp 22)], argTypes := #[3, 3, 3] }), some 23, 4, some (3, false))), by kernel_rfl⟩ ha rfl) rfl Try.func58 (by kernel_rfl) (in_sat hS _ _ _) fun v6 w a hp7 ha => ?_)
  obtain ⟨rfl, hS⟩ := hp7
  refine p_run [(10, 24, .bool (!((inB f 0 ((pv.n : Int) - 1))))), (11, 25, .bool (!((inB f 0 ((pv.n : Int) - 1))))), (12, 26, .bool (!((inB f 0 ((pv.n : Int) - 1)))))] ha fun a ha => ?_
  rcases Bool.eq_false_or_eq_true (inB f 0 ((pv.n : Int) - 1)) with c8 | c8
  ·
   replace ha := ha.turn 23 (.bool true) rfl (congrArg Value.bool c8)
   replace ha := ha.turn 24 (.bool false) rfl (congrArg Value.bool (not_ff c8))
   replace ha := ha.turn 25 (.bool false) rfl (congrArg Value.bool (not_ff c8))
   replace ha := ha.turn 26 (.bool false) rfl (congrArg Value.bool (not_ff c8))
   refine p_run [(13, 27, iv arg)] ha fun a ha => ?_
   refine p_op (o_ret ha (by decide) (AtG.here (gd := 26) ⟨(by kernel_rfl : ((regOf Try.f73 1)[14]?).map spec = some ((Op.call { callee := (Callee.value (Operand.func 72)), args := #[(Operand.tmp 27)], argTypes := #[3] }), some 28, 4, some (12, false))), by kernel_rfl⟩ ha rfl) rfl Try.func72 (by kernel_rfl) (num_sat hS _) fun v9 w a hp10 ha => ?_)
   obtain ⟨rfl, hS⟩ := hp10
   refine p_run [(15, 29, .bool (!((numB arg)))), (16, 30, .bool (!((numB arg)))), (17, 31, .bool (!((numB arg))))] ha fun a ha => ?_
   rcases Bool.eq_false_or_eq_true (numB arg) with c11 | c11
   ·
    replace ha := ha.turn 28 (.bool true) rfl (congrArg Value.bool c11)
    replace ha := ha.turn 29 (.bool false) rfl (congrArg Value.bool (not_ff c11))
    replace ha := ha.turn 30 (.bool false) rfl (congrArg Value.bool (not_ff c11))
    replace ha := ha.turn 31 (.bool false) rfl (congrArg Value.bool (not_ff c11))
    refine p_run [(18, 32, iv fuel)] ha fun a ha => ?_
    refine p_op (o_ret ha (by decide) (AtG.here (gd := 31) ⟨(by kernel_rfl : ((regOf Try.f73 1)[19]?).map spec = some ((Op.call { callee := (Callee.value (Operand.func 58)), args := #[(Operand.tmp 32), (Operand.const (Value.int IntKind.i64 0)), (Operand.const (Value.int IntKind.i64 200))], argTypes := #[3, 3, 3] }), some 33, 4, some (17, false))), by kernel_rfl⟩ ha rfl) rfl Try.func58 (by kernel_rfl) (in_sat hS _ _ _) fun v12 w a hp13 ha => ?_)
    obtain ⟨rfl, hS⟩ := hp13
    refine p_run [(20, 34, .bool (!((inB fuel 0 200)))), (21, 35, .bool (!((inB fuel 0 200))))] ha fun a ha => ?_
    refine p_end ?_
    refine then_n ?_
    rcases Bool.eq_false_or_eq_true (inB fuel 0 200) with c14 | c14
    ·
     exact absurd hask (by simp [askB, ← hn, c14, c5, c8, c11])
    ·
     refine c_true ha rfl (not_tt c14) ?_
     refine wp_seq ?_
     refine p_beginL [0, 1] ?_
     refine p_run [(0, 10, .pointer none), (1, 11, .bool false)] ha fun a ha => ?_
     refine p_end ?_
     replace ha := ha.as [(1, iv f), (2, iv arg), (3, iv fuel), (4, iv shared), (5, ptr b1 0), (10, .pointer none), (11, .bool false)] rfl
     refine then_n ?_
     refine wp_ret ?_
     refine then_r ?_
     refine end_tmp2 (t := 10) (u := 11) ha (by kernel_rfl) rfl rfl ?_
     exact ⟨rfl, Sat.rest [_] hS⟩
   ·
    replace ha := ha.turn 28 (.bool false) rfl (congrArg Value.bool c11)
    replace ha := ha.turn 29 (.bool true) rfl (congrArg Value.bool (not_tt c11))
    replace ha := ha.turn 30 (.bool true) rfl (congrArg Value.bool (not_tt c11))
    replace ha := ha.turn 31 (.bool true) rfl (congrArg Value.bool (not_tt c11))
    refine p_run [(18, 32, undef), (19, 33, undef), (20, 34, undef), (21, 35, .bool true)] ha fun a ha => ?_
    refine p_end ?_
    refine then_n ?_
    refine c_true ha rfl rfl ?_
    refine wp_seq ?_
    refine p_beginL [0, 1] ?_
    refine p_run [(0, 10, .pointer none), (1, 11, .bool false)] ha fun a ha => ?_
    refine p_end ?_
    replace ha := ha.as [(1, iv f), (2, iv arg), (3, iv fuel), (4, iv shared), (5, ptr b1 0), (10, .pointer none), (11, .bool false)] rfl
    refine then_n ?_
    refine wp_ret ?_
    refine then_r ?_
    refine end_tmp2 (t := 10) (u := 11) ha (by kernel_rfl) rfl rfl ?_
    exact ⟨rfl, Sat.rest [_] hS⟩
  ·
   replace ha := ha.turn 23 (.bool false) rfl (congrArg Value.bool c8)
   replace ha := ha.turn 24 (.bool true) rfl (congrArg Value.bool (not_tt c8))
   replace ha := ha.turn 25 (.bool true) rfl (congrArg Value.bool (not_tt c8))
   replace ha := ha.turn 26 (.bool true) rfl (congrArg Value.bool (not_tt c8))
   refine p_run [(13, 27, undef), (14, 28, undef), (15, 29, undef), (16, 30, .bool true), (17, 31, .bool true), (18, 32, undef), (19, 33, undef), (20, 34, undef), (21, 35, .bool true)] ha fun a ha => ?_
   refine p_end ?_
   refine then_n ?_
   refine c_true ha rfl rfl ?_
   refine wp_seq ?_
   refine p_beginL [0, 1] ?_
   refine p_run [(0, 10, .pointer none), (1, 11, .bool false)] ha fun a ha => ?_
   refine p_end ?_
   replace ha := ha.as [(1, iv f), (2, iv arg), (3, iv fuel), (4, iv shared), (5, ptr b1 0), (10, .pointer none), (11, .bool false)] rfl
   refine then_n ?_
   refine wp_ret ?_
   refine then_r ?_
   refine end_tmp2 (t := 10) (u := 11) ha (by kernel_rfl) rfl rfl ?_
   exact ⟨rfl, Sat.rest [_] hS⟩
 ·
  replace ha := ha.turn 15 (.bool false) rfl (congrArg Value.bool c5)
  replace ha := ha.turn 16 (.bool true) rfl (congrArg Value.bool (not_tt c5))
  replace ha := ha.turn 17 (.bool true) rfl (congrArg Value.bool (not_tt c5))
  refine p_run [(4, 18, undef), (5, 19, undef), (6, 20, undef), (7, 21, undef), (8, 22, undef), (9, 23, undef), (10, 24, undef), (11, 25, .bool true), (12, 26, .bool true), (13, 27, undef), (14, 28, undef), (15, 29, undef), (16, 30, .bool true), (17, 31, .bool true), (18, 32, undef), (19, 33, undef), (20, 34, undef), (21, 35, .bool true)] ha fun a ha => ?_
  refine p_end ?_
  replace ha := ha.as [(1, iv f), (2, iv arg), (3, iv fuel), (4, iv shared), (5, ptr b1 0), (10, .pointer none), (11, .bool false), (35, .bool true)] rfl
  refine then_n ?_
  refine c_true ha rfl rfl ?_
  refine wp_seq ?_
  refine p_beginL [0, 1] ?_
  refine p_run [(0, 10, .pointer none), (1, 11, .bool false)] ha fun a ha => ?_
  refine p_end ?_
  refine then_n ?_
  refine wp_ret ?_
  refine then_r ?_
  refine end_tmp2 (t := 10) (u := 11) ha (by kernel_rfl) rfl rfl ?_
  exact ⟨rfl, Sat.rest [_] hS⟩
set_option maxRecDepth 20000 in
set_option maxHeartbeats 1000000 in
theorem ranFrom_done (w0 : World) (pv : Sl) (l : List (List GS)) (f arg fuel shared : Int) (hn : pv.n = l.length) (hr : Kd.C (Kd.slice 144 k144) w0 pv.A l.length l) (hc : l.length ≤ pv.c) (hask : askB l f arg fuel = true) (m1 : MS) (f1 : FS) (o1 : Int) (hres : callS (PL l) fuel 8 (MS.start shared) f arg none 0 false = .done m1 f1 o1) :
  Calls Try.prog 73 #[.agg #[pv.v], .int .i64 f, .int .i64 arg, .int .i64 fuel, .int .i64 shared] w0 (Ret fun r w' => ∃ bm, r = .tuple #[.pointer (some ⟨bm, 0, none⟩), .bool true] ∧ Sat w0 w' [mchO bm pv fuel (runS (PL l) shared f arg fuel)]) := by
 have hl : l.length ≤ 9223372036854775807 := hr.2.1
 have hrd : ∀ {w' : World} {Rs' : List Asn}, Sat w0 w' Rs' → Kd.C (Kd.slice 144 k144) w' pv.A l.length l := fun h => Kd.C_below hr h.below
 have hS := Sat.start w0
 simp only [askB, Bool.and_eq_true] at hask
 obtain ⟨⟨⟨hq1, hq2⟩, hq3⟩, hq4⟩ := hask
 have hP := progOk_of hq1
 obtain ⟨sbs, hPr⟩ := rdProg_of (c := pv.c) hr
 rw [← hn] at hPr
 rw [← hn] at hq2
 have hff : 0 ≤ f ∧ f < (PL l).length := by rw [PL_length, ← hn]; simp only [inB, Bool.and_eq_true, decide_eq_true_eq] at hq2; omega
 have hfu : 0 ≤ fuel ∧ fuel ≤ 200 := by simp only [inB, Bool.and_eq_true, decide_eq_true_eq] at hq4; exact hq4
 obtain ⟨hok, hgr, hof⟩ := callS_ok hP fuel 8 (MS.start shared) f arg none 0 false m1 f1 o1 10 (start_ok shared hfu.1 hfu.2) hff.1 hff.2 hres
 obtain ⟨c0, hc0⟩ : ∃ c, m1.calls[0]? = some c := ⟨m1.calls[0]'(by have := hof.id0; have := hof.id1; omega), List.getElem?_eq_getElem _⟩
 have hb9 := hof.pan
 refine enter (n := 96) Try.func73 code73 (by kernel_rfl) (Nat.le_of_ble_eq_true rfl) (fun a ha => ?_)
 replace ha : Has 96 [(0, .agg #[.slice pv.A pv.n pv.c]), (1, iv f), (2, iv arg), (3, iv fuel), (4, iv shared)] a := ha
 refine wp_seq ?_
 refine p_beginL [0, 1, 2] ?_
 refine p_op (o_new (cs := [.slice pv.A pv.n pv.c]) (T := 31) (fun b => .pointer (some ⟨b, 0, none⟩)) ha (by decide) (iAt (op := (Op.box 31 (Operand.tmp 0))) (d := some 5) (ty := 0)) (by kernel_rfl) hS (fun _ => by kernel_rfl) fun b1 w a hb2 hS ha => ?_)
 refine p_run [(1, 10, .pointer none), (2, 11, .bool false)] ha fun a ha => ?_
 refine p_end ?_
 refine then_n ?_
 refine wp_seq ?_
 refine wp_seq ?_
 refine p_beginL [0, 1, 2, 3, 4, 5, 6, 7, 8, 9, 10, 11, 12, 13, 14, 15, 16, 17, 18, 19, 20, 21] ?_
 refine p_val ha (by decide) (v_loadW ha (iAt (op := (Op.load 31 (Operand.tmp 5))) (d := some 14) (ty := 31)) rfl (by kernel_rfl) (fun _ hw => by rw [hw]; exact hS.blk 0 rfl)) (fun a ha => ?_)
 refine p_op (o_ret (Post := fun r_ w' => r_ = .bool (programB l) ∧ Sat w0 w' ((SX.blk b1 [.slice pv.A pv.n pv.c] 31) :: [])) ha (by decide) (iAt (op := (Op.call { callee := (Callee.value (Operand.func 96)), args := #[(Operand.tmp 14)], argTypes := #[31] })) (d := some 15) (ty := 4)) rfl Try.func96 (by kernel_rfl) (by have h9 := prog_sat (A := pv.A) (c := pv.c) hS (hrd hS) hc; rw [← hn] at h9; exact h9) (fun v3 w a hp4 ha => ?_))
 obtain ⟨rfl, hS⟩ := hp4
 have ha : Has 96 [(1, iv f), (2, iv arg), (3, iv fuel), (4, iv shared), (5, ptr b1 0), (10, .pointer none), (11, .bool false), (14, .agg #[.slice pv.A pv.n pv.c]), (15, .bool (programB l))] a := ha.keeps [1, 2, 3, 4, 5, 10, 11, 14, 15] _ rfl
 refine p_run [(2, 16, .bool (!((programB l)))), (3, 17, .bool (!((programB l))))] ha fun a ha => ?_
 replace ha := ha.turn 15 (.bool true) rfl (congrArg Value.bool hq1)
 replace ha := ha.turn 16 (.bool false) rfl (congrArg Value.bool (not_ff hq1))
 replace ha := ha.turn 17 (.bool false) rfl (congrArg Value.bool (not_ff hq1))
 refine p_run [(4, 18, iv f), (5, 19, ptr b1 0)] ha fun a ha => ?_
 refine p_ld (d := 20) (b := b1) (j := 0) ha (hS.blk 0 rfl) rfl fun a ha => ?_
 refine p_run [(7, 21, iv (pv.n : Int))] ha fun a ha => ?_
 refine p_val (v := iv ((pv.n : Int) - 1)) ha (by decide) ((v_pure (v := .int .i64 (IntKind.i64.wrap ((pv.n : Int) - 1))) ha (AtG.here (gd := 17) ⟨(by kernel_rfl : ((regOf Try.f73 1)[8]?).map spec = some ((Op.binOp BinOp.sub 3 (Operand.tmp 21) (Operand.const (Value.int IntKind.i64 1)) 3), some 22, 3, some (3, false))), by kernel_rfl⟩ ha rfl) (by kernel_rfl) (fun _ => by kernel_rfl)).as (by rw [wrap_i64 (by omega) (by omega)])) (fun a ha => ?_)
 refine p_op (o_ret ha (by decide) (AtG.here (gd := 17) ⟨(by kernel_rfl : ((regOf Try.f73 1)[9]?).map spec = some ((Op.call { callee := (Callee.value (Operand.func 58)), args := #[(Operand.tmp 18), (Operand.const (Value.int IntKind.i64 0)), (Operand.tmp 22)], argTypes := #[3, 3, 3] }), some 23, 4, some (3, false))), by kernel_rfl⟩ ha rfl) rfl Try.func58 (by kernel_rfl) (in_sat hS _ _ _) fun v5 w a hp6 ha => ?_)
 obtain ⟨rfl, hS⟩ := hp6
 refine p_run [(10, 24, .bool (!((inB f 0 ((pv.n : Int) - 1))))), (11, 25, .bool (!((inB f 0 ((pv.n : Int) - 1))))), (12, 26, .bool (!((inB f 0 ((pv.n : Int) - 1)))))] ha fun a ha => ?_
 replace ha := ha.turn 23 (.bool true) rfl (congrArg Value.bool hq2)
 replace ha := ha.turn 24 (.bool false) rfl (congrArg Value.bool (not_ff hq2))
 replace ha := ha.turn 25 (.bool false) rfl (congrArg Value.bool (not_ff hq2))
 replace ha := ha.turn 26 (.bool false) rfl (congrArg Value.bool (not_ff hq2))
 refine p_run [(13, 27, iv arg)] ha fun a ha => ?_
 refine p_op (o_ret ha (by decide) (AtG.here (gd := 26) ⟨(by kernel_rfl : ((regOf Try.f73 1)[14]?).map spec = some ((Op.call { callee := (Callee.value (Operand.func 72)), args := #[(Operand.tmp 27)], argTypes := #[3] }), some 28, 4, some (12, false))), by kernel_rfl⟩ ha rfl) rfl Try.func72 (by kernel_rfl) (num_sat hS _) fun v7 w a hp8 ha => ?_)
 obtain ⟨rfl, hS⟩ := hp8
 refine p_run [(15, 29, .bool (!((numB arg)))), (16, 30, .bool (!((numB arg)))), (17, 31, .bool (!((numB arg))))] ha fun a ha => ?_
 replace ha := ha.turn 28 (.bool true) rfl (congrArg Value.bool hq3)
 replace ha := ha.turn 29 (.bool false) rfl (congrArg Value.bool (not_ff hq3))
 replace ha := ha.turn 30 (.bool false) rfl (congrArg Value.bool (not_ff hq3))
 replace ha := ha.turn 31 (.bool false) rfl (congrArg Value.bool (not_ff hq3))
 refine p_run [(18, 32, iv fuel)] ha fun a ha => ?_
 refine p_op (o_ret ha (by decide) (AtG.here (gd := 31) ⟨(by kernel_rfl : ((regOf Try.f73 1)[19]?).map spec = some ((Op.call { callee := (Callee.value (Operand.func 58)), args := #[(Operand.tmp 32), (Operand.const (Value.int IntKind.i64 0)), (Operand.const (Value.int IntKind.i64 200))], argTypes := #[3, 3, 3] }), some 33, 4, some (17, false))), by kernel_rfl⟩ ha rfl) rfl Try.func58 (by kernel_rfl) (in_sat hS _ _ _) fun v9 w a hp10 ha => ?_)
 obtain ⟨rfl, hS⟩ := hp10
 refine p_run [(20, 34, .bool (!((inB fuel 0 200)))), (21, 35, .bool (!((inB fuel 0 200))))] ha fun a ha => ?_
 refine p_end ?_
 refine then_n ?_
 refine c_false ha rfl (not_ff hq4) ?_
 refine wp_skip ?_
 refine then_n ?_
 refine wp_seq ?_
 refine p_beginL [0, 1, 2, 3, 4, 5, 6] ?_
 refine p_val ha (by decide) (v_loadW ha (iAt (op := (Op.load 31 (Operand.tmp 5))) (d := some 36) (ty := 31)) rfl (by kernel_rfl) (fun _ hw => by rw [hw]; exact hS.blk 0 rfl)) (fun a ha => ?_)
 refine p_run [(1, 37, iv fuel), (2, 38, iv shared)] ha fun a ha => ?_
 refine p_op (o_makeMap ha (by decide) (iAt (op := (Op.makeMap 71 none)) (d := some 39) (ty := 71)) hS (fun bp w a hb11 (hS : Sat w0 w ((mapA bp []) :: (SX.blk b1 [.slice pv.A pv.n pv.c] 31) :: [])) ha => ?_))
 refine p_run [(4, 40, .agg #[.slice pv.A pv.n pv.c, iv fuel, iv 0, iv shared, iv 0, iv 0, .slice none 0 0, .slice none 0 0, .slice none 0 0, .slice none 0 0, .slice none 0 0, .map (some bp), iv 0, iv 0, .slice none 0 0, iv 0])] ha fun a ha => ?_
 refine p_op (o_new (cs := [.slice pv.A pv.n pv.c, iv fuel, iv 0, iv shared, iv 0, iv 0, .slice none 0 0, .slice none 0 0, .slice none 0 0, .slice none 0 0, .slice none 0 0, .map (some bp), iv 0, iv 0, .slice none 0 0, iv 0]) (T := 73) (fun b => .pointer (some ⟨b, 0, none⟩)) ha (by decide) (iAt (op := (Op.box 73 (Operand.tmp 40))) (d := some 41) (ty := 65)) (by kernel_rfl) hS (fun _ => by kernel_rfl) fun bm w a hb12 hS ha => ?_)
 refine p_run [(6, 12, ptr bm 0)] ha fun a ha => ?_
 refine p_end ?_
 replace ha := ha.as [(1, iv f), (2, iv arg), (10, .pointer none), (11, .bool false), (12, ptr bm 0)] rfl
 refine then_n ?_
 refine wp_seq ?_
 refine p_beginL [0, 1, 2, 3, 4] ?_
 refine p_run [(0, 42, ptr bm 0), (1, 43, iv f), (2, 44, iv arg)] ha fun a ha => ?_
 replace hS : Sat w0 w ((MB bm pv fuel 0 shared 0 0 (⟨none, 0, 0⟩) (⟨none, 0, 0⟩) (⟨none, 0, 0⟩) (⟨none, 0, 0⟩) (⟨none, 0, 0⟩) bp) :: (mapA bp []) :: (SX.blk b1 [.slice pv.A pv.n pv.c] 31) :: []) := hS
 replace hS : Sat w0 w ((mch bm pv fuel (MS.start shared)) :: (SX.blk b1 [.slice pv.A pv.n pv.c] 31) :: []) := mch_start (pv := pv) hS
 refine p_op (o_ret ha (by decide) (iAt (op := (Op.call { callee := (Callee.value (Operand.func 97)), args := #[(Operand.tmp 42), (Operand.tmp 43), (Operand.tmp 44)], argTypes := #[65, 3, 3] })) (d := some 45) (ty := 130)) rfl Try.func97 (by kernel_rfl) (first_done hP (pv := pv) (sbs := sbs) hS (start_ok shared hfu.1 hfu.2) rfl hff.1 hff.2 (hPr.keeps _) hres) fun v13 w a hp14 ha => ?_)
 obtain ⟨bd, rfl, hS⟩ := hp14
 obtain ⟨s, t, hs, hS⟩ := Sat.openMF hS
 replace hS : Sat w0 w ((MB bm pv fuel m1.made m1.shared m1.depth m1.deepest s.tr s.ow s.ca s.pa s.re s.bp) :: (rE s.tr m1.trace) :: (rI s.ow m1.owners) :: (rC s.ca m1.calls) :: (rP s.pa s.us) :: (starL (unwL s.us)) :: (rV s.re m1.recs) :: (mapA s.bp m1.places) :: (FB bd f1.id f1.fn f1.r0 f1.r1 f1.r2 f1.r3 t (.pointer none) f1.dfr f1.cnt f1.lvg f1.en f1.pan) :: (rQ t f1.runs) :: (SX.blk b1 [.slice pv.A pv.n pv.c] 31) :: []) := hS
 refine p_run [(4, 13, ptr bd 0)] ha fun a ha => ?_
 refine p_end ?_
 refine then_n ?_
 refine wp_seq ?_
 refine d_start 12 13 hS fun w hS => ?_
 refine d_run (k := 9) [(0, 46, ptr bm 0), (1, 47, ptr bm 0), (2, 48, ptr bm 0), (3, 49, ptr bm 6)] ha (.inr hS) (pk_then (pk_body)) fun a ha => ?_
 refine d_ld 4 (d := 50) (b := bm) (j := 6) ha hS (pk_then (pk_body)) (fun _ hw => hw.blk 0 rfl) rfl fun a ha => ?_
 refine d_run (k := 5) [(5, 51, ptr bm 0), (6, 52, ptr bm 0), (7, 53, ptr bm 2)] ha (.inr hS) (pk_then (pk_body)) fun a ha => ?_
 refine d_ld 8 (d := 54) (b := bm) (j := 2) ha hS (pk_then (pk_body)) (fun _ hw => hw.blk 0 rfl) rfl fun a ha => ?_
 refine d_run (k := 1) [(9, 55, .agg #[iv 4, iv 0, .slice s.tr.A s.tr.n s.tr.c, iv m1.made]), (10, 56, ptr bm 0), (11, 57, ptr bm 12)] ha (.inr hS) (pk_then (pk_body)) fun a ha => ?_
 refine d_one (i := 12) (by kernel_rfl) (o_storeAgg 0 ha (iAt (op := (Op.store 54 (Operand.tmp 57) (Operand.tmp 55))) (ty := 0)) rfl rfl rfl (by kernel_rfl) hS rfl (Nat.le_of_ble_eq_true rfl) rfl fun w a hS ha => ?_)
 refine ⟨.inl (by kernel_rfl), ?_⟩
 refine d_end (by kernel_rfl) ?_ _
 replace ha := ha.as [(10, .pointer none), (11, .bool false), (12, ptr bm 0), (13, ptr bd 0)] rfl
 refine then_n ?_
 refine wp_seq ?_
 refine wp_seq ?_
 refine p_beginL [0, 1] ?_
 refine p_run [(0, 58, ptr bd 0), (1, 59, .bool true)] ha fun a ha => ?_
 refine p_end ?_
 refine then_n ?_
 refine c_true ha rfl rfl ?_
 refine wp_seq ?_
 refine d_start 17 22 hS fun w hS => ?_
 refine d_run (k := 17) [(0, 60, ptr bm 0), (1, 61, ptr bm 0), (2, 62, ptr bd 0), (3, 63, ptr bd 0), (4, 64, ptr bd 11)] ha (.inr hS) (pk_then (pk_then (pk_body))) fun a ha => ?_
 refine d_ld 5 (d := 65) (b := bd) (j := 11) ha hS (pk_then (pk_then (pk_body))) (fun _ hw => hw.blk 8 rfl) rfl fun a ha => ?_
 refine d_run (k := 13) [(6, 66, ptr bm 0), (7, 67, ptr bm 0), (8, 68, ptr bm 8)] ha (.inr hS) (pk_then (pk_then (pk_body))) fun a ha => ?_
 refine d_ld 9 (d := 69) (b := bm) (j := 8) ha hS (pk_then (pk_then (pk_body))) (fun _ hw => hw.blk 0 rfl) rfl fun a ha => ?_
 refine d_pure (i := 10) (v := .pointer (some ⟨bk s.ca, 0 * 6, none⟩)) ha (by decide) (v_indexO (s := s.ca) (el := 138) (sz := 6) (j := 0) ha (iAt (op := (Op.indexAddr 68 (Operand.tmp 69) (Operand.const (Value.int IntKind.i64 0)))) (d := some 70) (ty := 0)) rfl rfl (by kernel_rfl) (by kernel_rfl) (hS.rowA (s := s.ca) 3 rfl (by have := (List.getElem?_eq_some_iff.1 hc0).1; rw [encC_length]; omega)) (rfl) (by have h9 := hS.rowL (s := s.ca) (enc := cellsC) 3 cellsC_len (by decide) rfl; have := (List.getElem?_eq_some_iff.1 hc0).1; omega)) (.inr hS) (by kernel_rfl) (by kernel_rfl) (pk_then (pk_then (pk_body))) fun a ha => ?_
 refine d_run (k := 9) [(11, 71, .pointer (some ⟨bk s.ca, 0 * 6, none⟩)), (12, 72, .pointer (some ⟨bk s.ca, 0 * 6 + 4, none⟩))] ha (.inr hS) (pk_then (pk_then (pk_body))) fun a ha => ?_
 refine d_val (i := 13) (v := iv c0.val) ha (by decide) (v_loadC (v := iv c0.val) ha (iAt (op := (Op.load 3 (Operand.tmp 72))) (d := some 73) (ty := 3)) rfl (by kernel_rfl) (fun w' hw => ((hw.rdC (s := s.ca) 3 rfl)).cells _ _ ((flat_get (enc := cellsC) (o := 4) cellsC_len hc0 (by decide)).trans rfl))) hS (by kernel_rfl) (by kernel_rfl) (pk_then (pk_then (pk_body))) fun a ha => ?_
 refine d_run (k := 5) [(14, 74, ptr bm 0), (15, 75, ptr bm 12), (16, 76, ptr bm 12)] ha (.inr hS) (pk_then (pk_then (pk_body))) fun a ha => ?_
 refine d_one (i := 17) (by kernel_rfl) (o_st bm 12 (iv f1.en) 0 ha hS rfl rfl fun w a hS ha => ?_)
 refine ⟨.inl (by kernel_rfl), ?_⟩
 refine d_run (k := 1) [(18, 77, ptr bm 0), (19, 78, ptr bm 12), (20, 79, ptr bm 13)] ha (.inl (by kernel_rfl)) (pk_then (pk_then (pk_body))) fun a ha => ?_
 refine d_one (i := 21) (by kernel_rfl) (o_st bm 13 (iv c0.val) 0 ha hS rfl rfl fun w a hS ha => ?_)
 refine ⟨.inl (by kernel_rfl), ?_⟩
 refine d_end (by kernel_rfl) ?_ _
 replace ha := ha.as [(10, .pointer none), (11, .bool false), (12, ptr bm 0), (13, ptr bd 0)] rfl
 refine then_n ?_
 refine wp_seq ?_
 refine p_beginL [0, 1, 2, 3, 4] ?_
 refine p_run [(0, 80, ptr bd 0), (1, 81, ptr bd 0), (2, 82, ptr bd 11)] ha fun a ha => ?_
 refine p_ld (d := 83) (b := bd) (j := 11) ha (hS.blk 8 rfl) rfl fun a ha => ?_
 refine p_run [(4, 84, .bool (decide (f1.en = 2)))] ha fun a ha => ?_
 refine p_end ?_
 refine then_n ?_
 by_cases c15 : f1.en = 2
 ·
  refine c_true ha rfl (decide_eq_true c15) ?_
  have hpn := hof.pan c15
  obtain ⟨x, hx⟩ := us_get hs hpn.1 hpn.2
  refine d_start 10 11 hS fun w hS => ?_
  refine d_run (k := 8) [(0, 85, ptr bm 0), (1, 86, ptr bm 0), (2, 87, ptr bm 9)] ha (.inr hS) (pk_then (pk_body)) fun a ha => ?_
  refine d_ld 3 (d := 88) (b := bm) (j := 9) ha hS (pk_then (pk_body)) (fun _ hw => hw.blk 0 rfl) rfl fun a ha => ?_
  refine d_run (k := 4) [(4, 89, ptr bd 0), (5, 90, ptr bd 0), (6, 91, ptr bd 12)] ha (.inr hS) (pk_then (pk_body)) fun a ha => ?_
  refine d_ld 7 (d := 92) (b := bd) (j := 12) ha hS (pk_then (pk_body)) (fun _ hw => hw.blk 8 rfl) rfl fun a ha => ?_
  refine d_pure (i := 8) (v := .pointer (some ⟨bk s.pa, f1.pan.toNat * 9, none⟩)) ha (by decide) (v_indexO (s := s.pa) (el := 140) (sz := 9) (j := f1.pan.toNat) ha (iAt (op := (Op.indexAddr 69 (Operand.tmp 88) (Operand.tmp 92))) (d := some 93) (ty := 0)) rfl rfl (by kernel_rfl) (by kernel_rfl) (hS.rowA (s := s.pa) 4 rfl (by have := (List.getElem?_eq_some_iff.1 hx).1; rw [encP_length]; omega)) ((Int.toNat_of_nonneg hpn.1).symm) (by have h9 := hS.rowL (s := s.pa) (enc := cellsP) 4 cellsP_len (by decide) rfl; have := (List.getElem?_eq_some_iff.1 hx).1; omega)) (.inr hS) (by kernel_rfl) (by kernel_rfl) (pk_then (pk_body)) fun a ha => ?_
  refine d_run (k := 1) [(9, 94, .pointer (some ⟨bk s.pa, f1.pan.toNat * 9 + 4, none⟩))] ha (.inr hS) (pk_then (pk_body)) fun a ha => ?_
  refine d_one (i := 10) (by kernel_rfl) (o_storeRow (s := s.pa) (j := f1.pan.toNat * 9 + 4) (xs := encP s.us) (xs' := encP (s.us.set f1.pan.toNat (({ x.1 with fate := 3 } : PanI), x.2))) 4 ha (iAt (op := (Op.store 3 (Operand.tmp 94) (Operand.const (Value.int IntKind.i64 3)))) (ty := 0)) rfl rfl rfl (by kernel_rfl) hS rfl (by have := (List.getElem?_eq_some_iff.1 hx).1; rw [encP_length]; omega) ((flat_set (enc := cellsP) (x' := (({ x.1 with fate := 3 } : PanI), x.2)) cellsP_len hx (by decide) rfl)) (fun w a (hS : Sat w0 w ((SX.blk bm [.slice pv.A pv.n pv.c, iv fuel, iv m1.made, iv m1.shared, iv m1.depth, iv m1.deepest, .slice s.tr.A s.tr.n s.tr.c, .slice s.ow.A s.ow.n s.ow.c, .slice s.ca.A s.ca.n s.ca.c, .slice s.pa.A s.pa.n s.pa.c, .slice s.re.A s.re.n s.re.c, .map (some s.bp), iv f1.en, iv c0.val, .slice s.tr.A s.tr.n s.tr.c, iv m1.made] 73) :: (rE s.tr m1.trace) :: (rI s.ow m1.owners) :: (rC s.ca m1.calls) :: (rP s.pa (s.us.set f1.pan.toNat (({ x.1 with fate := 3 } : PanI), x.2))) :: (starL (unwL s.us)) :: (rV s.re m1.recs) :: (mapA s.bp m1.places) :: (FB bd f1.id f1.fn f1.r0 f1.r1 f1.r2 f1.r3 t (.pointer none) f1.dfr f1.cnt f1.lvg f1.en f1.pan) :: (rQ t f1.runs) :: (SX.blk b1 [.slice pv.A pv.n pv.c] 31) :: [])) ha => ?_))
  refine ⟨.inl (by kernel_rfl), ?_⟩
  refine d_end (by kernel_rfl) ?_ _
  replace ha := ha.as [(10, .pointer none), (11, .bool false), (12, ptr bm 0)] rfl
  refine then_n ?_
  refine wp_seq ?_
  refine p_beginL [0, 1, 2] ?_
  refine p_run [(0, 95, ptr bm 0), (1, 10, ptr bm 0), (2, 11, .bool true)] ha fun a ha => ?_
  refine p_end ?_
  refine then_n ?_
  refine wp_ret ?_
  refine end_tmp2 (t := 10) (u := 11) ha (by kernel_rfl) rfl rfl ?_
  replace hS : Sat w0 w ((SX.blk bm [.slice pv.A pv.n pv.c, iv fuel, iv m1.made, iv m1.shared, iv m1.depth, iv m1.deepest, .slice s.tr.A s.tr.n s.tr.c, .slice s.ow.A s.ow.n s.ow.c, .slice s.ca.A s.ca.n s.ca.c, .slice s.pa.A s.pa.n s.pa.c, .slice s.re.A s.re.n s.re.c, .map (some s.bp), iv f1.en, iv c0.val, .slice s.tr.A s.tr.n s.tr.c, iv m1.made] 73) :: (rE s.tr m1.trace) :: (rI s.ow m1.owners) :: (rC s.ca m1.calls) :: (rP s.pa (s.us.set f1.pan.toNat (({ x.1 with fate := 3 } : PanI), x.2))) :: (starL (unwL (s.us.set f1.pan.toNat (({ x.1 with fate := 3 } : PanI), x.2)))) :: (rV s.re m1.recs) :: (mapA s.bp m1.places) :: (FB bd f1.id f1.fn f1.r0 f1.r1 f1.r2 f1.r3 t (.pointer none) f1.dfr f1.cnt f1.lvg f1.en f1.pan) :: (rQ t f1.runs) :: (SX.blk b1 [.slice pv.A pv.n pv.c] 31) :: []) := by have e : unwL (s.us.set f1.pan.toNat (({ x.1 with fate := 3 } : PanI), x.2)) = unwL s.us := unwL_set hx rfl rfl; rw [e]; exact hS
  replace hS : Sat w0 w ((SX.blk bm [.slice pv.A pv.n pv.c, iv fuel, iv m1.made, iv m1.shared, iv m1.depth, iv m1.deepest, .slice s.tr.A s.tr.n s.tr.c, .slice s.ow.A s.ow.n s.ow.c, .slice s.ca.A s.ca.n s.ca.c, .slice s.pa.A s.pa.n s.pa.c, .slice s.re.A s.re.n s.re.c, .map (some s.bp), iv f1.en, iv c0.val, .slice s.tr.A s.tr.n s.tr.c, iv m1.made] 73) :: (rE s.tr m1.trace) :: (rI s.ow m1.owners) :: (rC s.ca m1.calls) :: (rP s.pa (s.us.set f1.pan.toNat (({ x.1 with fate := 3 } : PanI), x.2))) :: (starL (unwL (s.us.set f1.pan.toNat (({ x.1 with fate := 3 } : PanI), x.2)))) :: (rV s.re m1.recs) :: (mapA s.bp m1.places) :: []) := hS.pickN 11 [0, 1, 2, 3, 4, 5, 6, 7] (by decide) rfl
  refine ⟨bm, rfl, ?_⟩
  have hE : runS (PL l) shared f arg fuel = ⟨(⟨m1.made, m1.shared, m1.depth, m1.deepest, m1.trace, m1.owners, m1.calls, (panAt m1.panics f1.pan (fun z => { z with fate := 3 })), m1.recs, m1.places⟩ : MS), f1.en, c0.val⟩ := by unfold runS; rw [hres]; simp [runOf, hc0, List.getD, c15]
  rw [hE]
  exact Sat.shutMO (r := ⟨(⟨m1.made, m1.shared, m1.depth, m1.deepest, m1.trace, m1.owners, m1.calls, (panAt m1.panics f1.pan (fun z => { z with fate := 3 })), m1.recs, m1.places⟩ : MS), f1.en, c0.val⟩) (⟨s.tr, s.ow, s.ca, s.pa, s.re, (s.us.set f1.pan.toNat (({ x.1 with fate := 3 } : PanI), x.2)), s.bp⟩ : MSl) (panAt_us (g := fun z => { z with fate := 3 }) hs hx) hS
 ·
  refine c_false ha rfl (decide_eq_false c15) ?_
  refine wp_skip ?_
  refine then_n ?_
  refine wp_seq ?_
  refine p_beginL [0, 1, 2] ?_
  refine p_run [(0, 95, ptr bm 0), (1, 10, ptr bm 0), (2, 11, .bool true)] ha fun a ha => ?_
  refine p_end ?_
  refine then_n ?_
  refine wp_ret ?_
  refine end_tmp2 (t := 10) (u := 11) ha (by kernel_rfl) rfl rfl ?_
  replace hS : Sat w0 w ((SX.blk bm [.slice pv.A pv.n pv.c, iv fuel, iv m1.made, iv m1.shared, iv m1.depth, iv m1.deepest, .slice s.tr.A s.tr.n s.tr.c, .slice s.ow.A s.ow.n s.ow.c, .slice s.ca.A s.ca.n s.ca.c, .slice s.pa.A s.pa.n s.pa.c, .slice s.re.A s.re.n s.re.c, .map (some s.bp), iv f1.en, iv c0.val, .slice s.tr.A s.tr.n s.tr.c, iv m1.made] 73) :: (rE s.tr m1.trace) :: (rI s.ow m1.owners) :: (rC s.ca m1.calls) :: (rP s.pa s.us) :: (starL (unwL s.us)) :: (rV s.re m1.recs) :: (mapA s.bp m1.places) :: []) := hS.pickN 11 [0, 1, 2, 3, 4, 5, 6, 7] (by decide) rfl
  refine ⟨bm, rfl, ?_⟩
  have hE : runS (PL l) shared f arg fuel = ⟨(⟨m1.made, m1.shared, m1.depth, m1.deepest, m1.trace, m1.owners, m1.calls, m1.panics, m1.recs, m1.places⟩ : MS), f1.en, c0.val⟩ := by unfold runS; rw [hres]; simp [runOf, hc0, List.getD, c15]
  rw [hE]
  exact Sat.shutMO (r := ⟨(⟨m1.made, m1.shared, m1.depth, m1.deepest, m1.trace, m1.owners, m1.calls, m1.panics, m1.recs, m1.places⟩ : MS), f1.en, c0.val⟩) (⟨s.tr, s.ow, s.ca, s.pa, s.re, s.us, s.bp⟩ : MSl) (hs) hS
set_option maxRecDepth 20000 in
set_option maxHeartbeats 1000000 in
theorem ranFrom_spent (w0 : World) (pv : Sl) (l : List (List GS)) (f arg fuel shared : Int) (hn : pv.n = l.length) (hr : Kd.C (Kd.slice 144 k144) w0 pv.A l.length l) (hc : l.length ≤ pv.c) (hask : askB l f arg fuel = true) (m1 : MS) (hres : callS (PL l) fuel 8 (MS.start shared) f arg none 0 false = .spent m1) :
  Calls Try.prog 73 #[.agg #[pv.v], .int .i64 f, .int .i64 arg, .int .i64 fuel, .int .i64 shared] w0 (Ret fun r w' => ∃ bm, r = .tuple #[.pointer (some ⟨bm, 0, none⟩), .bool true] ∧ Sat w0 w' [mchO bm pv fuel (runS (PL l) shared f arg fuel)]) := by
 have hl : l.length ≤ 9223372036854775807 := hr.2.1
 have hrd : ∀ {w' : World} {Rs' : List Asn}, Sat w0 w' Rs' → Kd.C (Kd.slice 144 k144) w' pv.A l.length l := fun h => Kd.C_below hr h.below
 have hS := Sat.start w0
 simp only [askB, Bool.and_eq_true] at hask
 obtain ⟨⟨⟨hq1, hq2⟩, hq3⟩, hq4⟩ := hask
 have hP := progOk_of hq1
 obtain ⟨sbs, hPr⟩ := rdProg_of (c := pv.c) hr
 rw [← hn] at hPr
 rw [← hn] at hq2
 have hff : 0 ≤ f ∧ f < (PL l).length := by rw [PL_length, ← hn]; simp only [inB, Bool.and_eq_true, decide_eq_true_eq] at hq2; omega
 have hfu : 0 ≤ fuel ∧ fuel ≤ 200 := by simp only [inB, Bool.and_eq_true, decide_eq_true_eq] at hq4; exact hq4
 refine enter (n := 96) Try.func73 code73 (by kernel_rfl) (Nat.le_of_ble_eq_true rfl) (fun a ha => ?_)
 replace ha : Has 96 [(0, .agg #[.slice pv.A pv.n pv.c]), (1, iv f), (2, iv arg), (3, iv fuel), (4, iv shared)] a := ha
 refine wp_seq ?_
 refine p_beginL [0, 1, 2] ?_
 refine p_op (o_new (cs := [.slice pv.A pv.n pv.c]) (T := 31) (fun b => .pointer (some ⟨b, 0, none⟩)) ha (by decide) (iAt (op := (Op.box 31 (Operand.tmp 0))) (d := some 5) (ty := 0)) (by kernel_rfl) hS (fun _ => by kernel_rfl) fun b1 w a hb2 hS ha => ?_)
 refine p_run [(1, 10, .pointer none), (2, 11, .bool false)] ha fun a ha => ?_
 refine p_end ?_
 refine then_n ?_
 refine wp_seq ?_
 refine wp_seq ?_
 refine p_beginL [0, 1, 2, 3, 4, 5, 6, 7, 8, 9, 10, 11, 12, 13, 14, 15, 16, 17, 18, 19, 20, 21] ?_
 refine p_val ha (by decide) (v_loadW ha (iAt (op := (Op.load 31 (Operand.tmp 5))) (d := some 14) (ty := 31)) rfl (by kernel_rfl) (fun _ hw => by rw [hw]; exact hS.blk 0 rfl)) (fun a ha => ?_)
 refine p_op (o_ret (Post := fun r_ w' => r_ = .bool (programB l) ∧ Sat w0 w' ((SX.blk b1 [.slice pv.A pv.n pv.c] 31) :: [])) ha (by decide) (iAt (op := (Op.call { callee := (Callee.value (Operand.func 96)), args := #[(Operand.tmp 14)], argTypes := #[31] })) (d := some 15) (ty := 4)) rfl Try.func96 (by kernel_rfl) (by have h9 := prog_sat (A := pv.A) (c := pv.c) hS (hrd hS) hc; rw [← hn] at h9; exact h9) (fun v3 w a hp4 ha => ?_))
 obtain ⟨rfl, hS⟩ := hp4
 have ha : Has 96 [(1, iv f), (2, iv arg), (3, iv fuel), (4, iv shared), (5, ptr b1 0), (10, .pointer none), (11, .bool false), (14, .agg #[.slice pv.A pv.n pv.c]), (15, .bool (programB l))] a := ha.keeps [1, 2, 3, 4, 5, 10, 11, 14, 15] _ rfl
 refine p_run [(2, 16, .bool (!((programB l)))), (3, 17, .bool (!((programB l))))] ha fun a ha => ?_
 replace ha := ha.turn 15 (.bool true) rfl (congrArg Value.bool hq1)
 replace ha := ha.turn 16 (.bool false) rfl (congrArg Value.bool (not_ff hq1))
 replace ha := ha.turn 17 (.bool false) rfl (congrArg Value.bool (not_ff hq1))
 refine p_run [(4, 18, iv f), (5, 19, ptr b1 0)] ha fun a ha => ?_
 refine p_ld (d := 20) (b := b1) (j := 0) ha (hS.blk 0 rfl) rfl fun a ha => ?_
 refine p_run [(7, 21, iv (pv.n : Int))] ha fun a ha => ?_
 refine p_val (v := iv ((pv.n : Int) - 1)) ha (by decide) ((v_pure (v := .int .i64 (IntKind.i64.wrap ((pv.n : Int) - 1))) ha (AtG.here (gd := 17) ⟨(by kernel_rfl : ((regOf Try.f73 1)[8]?).map spec = some ((Op.binOp BinOp.sub 3 (Operand.tmp 21) (Operand.const (Value.int IntKind.i64 1)) 3), some 22, 3, some (3, false))), by kernel_rfl⟩ ha rfl) (by kernel_rfl) (fun _ => by kernel_rfl)).as (by rw [wrap_i64 (by omega) (by omega)])) (fun a ha => ?_)
 refine p_op (o_ret ha (by decide) (AtG.here (gd := 17) ⟨(by kernel_rfl : ((regOf Try.f73 1)[9]?).map spec = some ((Op.call { callee := (Callee.value (Operand.func 58)), args := #[(Operand.tmp 18), (Operand.const (Value.int IntKind.i64 0)), (Operand.tmp 22)], argTypes := #[3, 3, 3] }), some 23, 4, some (3, false))), by kernel_rfl⟩ ha rfl) rfl Try.func58 (by kernel_rfl) (in_sat hS _ _ _) fun v5 w a hp6 ha => ?_)
 obtain ⟨rfl, hS⟩ := hp6
 refine p_run [(10, 24, .bool (!((inB f 0 ((pv.n : Int) - 1))))), (11, 25, .bool (!((inB f 0 ((pv.n : Int) - 1))))), (12, 26, .bool (!((inB f 0 ((pv.n : Int) - 1)))))] ha fun a ha => ?_
 replace ha := ha.turn 23 (.bool true) rfl (congrArg Value.bool hq2)
 replace ha := ha.turn 24 (.bool false) rfl (congrArg Value.bool (not_ff hq2))
 replace ha := ha.turn 25 (.bool false) rfl (congrArg Value.bool (not_ff hq2))
 replace ha := ha.turn 26 (.bool false) rfl (congrArg Value.bool (not_ff hq2))
 refine p_run [(13, 27, iv arg)] ha fun a ha => ?_
 refine p_op (o_ret ha (by decide) (AtG.here (gd := 26) ⟨(by kernel_rfl : ((regOf Try.f73 1)[14]?).map spec = some ((Op.call { callee := (Callee.value (Operand.func 72)), args := #[(Operand.tmp 27)], argTypes := #[3] }), some 28, 4, some (12, false))), by kernel_rfl⟩ ha rfl) rfl Try.func72 (by kernel_rfl) (num_sat hS _) fun v7 w a hp8 ha => ?_)
 obtain ⟨rfl, hS⟩ := hp8
 refine p_run [(15, 29, .bool (!((numB arg)))), (16, 30, .bool (!((numB arg)))), (17, 31, .bool (!((numB arg))))] ha fun a ha => ?_
 replace ha := ha.turn 28 (.bool true) rfl (congrArg Value.bool hq3)
 replace ha := ha.turn 29 (.bool false) rfl (congrArg Value.bool (not_ff hq3))
 replace ha := ha.turn 30 (.bool false) rfl (congrArg Value.bool (not_ff hq3))
 replace ha := ha.turn 31 (.bool false) rfl (congrArg Value.bool (not_ff hq3))
 refine p_run [(18, 32, iv fuel)] ha fun a ha => ?_
 refine p_op (o_ret ha (by decide) (AtG.here (gd := 31) ⟨(by kernel_rfl : ((regOf Try.f73 1)[19]?).map spec = some ((Op.call { callee := (Callee.value (Operand.func 58)), args := #[(Operand.tmp 32), (Operand.const (Value.int IntKind.i64 0)), (Operand.const (Value.int IntKind.i64 200))], argTypes := #[3, 3, 3] }), some 33, 4, some (17, false))), by kernel_rfl⟩ ha rfl) rfl Try.func58 (by kernel_rfl) (in_sat hS _ _ _) fun v9 w a hp10 ha => ?_)
 obtain ⟨rfl, hS⟩ := hp10
 refine p_run [(20, 34, .bool (!((inB fuel 0 200)))), (21, 35, .bool (!((inB fuel 0 200))))] ha fun a ha => ?_
 refine p_end ?_
 refine then_n ?_
 refine c_false ha rfl (not_ff hq4) ?_
 refine wp_skip ?_
 refine then_n ?_
 refine wp_seq ?_
 refine p_beginL [0, 1, 2, 3, 4, 5, 6] ?_
 refine p_val ha (by decide) (v_loadW ha (iAt (op := (Op.load 31 (Operand.tmp 5))) (d := some 36) (ty := 31)) rfl (by kernel_rfl) (fun _ hw => by rw [hw]; exact hS.blk 0 rfl)) (fun a ha => ?_)
 refine p_run [(1, 37, iv fuel), (2, 38, iv shared)] ha fun a ha => ?_
 refine p_op (o_makeMap ha (by decide) (iAt (op := (Op.makeMap 71 none)) (d := some 39) (ty := 71)) hS (fun bp w a hb11 (hS : Sat w0 w ((mapA bp []) :: (SX.blk b1 [.slice pv.A pv.n pv.c] 31) :: [])) ha => ?_))
 refine p_run [(4, 40, .agg #[.slice pv.A pv.n pv.c, iv fuel, iv 0, iv shared, iv 0, iv 0, .slice none 0 0, .slice none 0 0, .slice none 0 0, .slice none 0 0, .slice none 0 0, .map (some bp), iv 0, iv 0, .slice none 0 0, iv 0])] ha fun a ha => ?_
 refine p_op (o_new (cs := [.slice pv.A pv.n pv.c, iv fuel, iv 0, iv shared, iv 0, iv 0, .slice none 0 0, .slice none 0 0, .slice none 0 0, .slice none 0 0, .slice none 0 0, .map (some bp), iv 0, iv 0, .slice none 0 0, iv 0]) (T := 73) (fun b => .pointer (some ⟨b, 0, none⟩)) ha (by decide) (iAt (op := (Op.box 73 (Operand.tmp 40))) (d := some 41) (ty := 65)) (by kernel_rfl) hS (fun _ => by kernel_rfl) fun bm w a hb12 hS ha => ?_)
 refine p_run [(6, 12, ptr bm 0)] ha fun a ha => ?_
 refine p_end ?_
 replace ha := ha.as [(1, iv f), (2, iv arg), (10, .pointer none), (11, .bool false), (12, ptr bm 0)] rfl
 refine then_n ?_
 refine wp_seq ?_
 refine p_beginL [0, 1, 2, 3, 4] ?_
 refine p_run [(0, 42, ptr bm 0), (1, 43, iv f), (2, 44, iv arg)] ha fun a ha => ?_
 replace hS : Sat w0 w ((MB bm pv fuel 0 shared 0 0 (⟨none, 0, 0⟩) (⟨none, 0, 0⟩) (⟨none, 0, 0⟩) (⟨none, 0, 0⟩) (⟨none, 0, 0⟩) bp) :: (mapA bp []) :: (SX.blk b1 [.slice pv.A pv.n pv.c] 31) :: []) := hS
 replace hS : Sat w0 w ((mch bm pv fuel (MS.start shared)) :: (SX.blk b1 [.slice pv.A pv.n pv.c] 31) :: []) := mch_start (pv := pv) hS
 refine p_op (o_ret ha (by decide) (iAt (op := (Op.call { callee := (Callee.value (Operand.func 97)), args := #[(Operand.tmp 42), (Operand.tmp 43), (Operand.tmp 44)], argTypes := #[65, 3, 3] })) (d := some 45) (ty := 130)) rfl Try.func97 (by kernel_rfl) (first_spent hP (pv := pv) (sbs := sbs) hS (start_ok shared hfu.1 hfu.2) rfl hff.1 hff.2 (hPr.keeps _) hres) fun v13 w a hp14 ha => ?_)
 obtain ⟨rfl, hS⟩ := hp14
 obtain ⟨s, hs, hS⟩ := Sat.openM hS
 replace hS : Sat w0 w ((MB bm pv fuel m1.made m1.shared m1.depth m1.deepest s.tr s.ow s.ca s.pa s.re s.bp) :: (rE s.tr m1.trace) :: (rI s.ow m1.owners) :: (rC s.ca m1.calls) :: (rP s.pa s.us) :: (starL (unwL s.us)) :: (rV s.re m1.recs) :: (mapA s.bp m1.places) :: (SX.blk b1 [.slice pv.A pv.n pv.c] 31) :: []) := hS
 refine p_run [(4, 13, .pointer none)] ha fun a ha => ?_
 refine p_end ?_
 refine then_n ?_
 refine wp_seq ?_
 refine d_start 12 13 hS fun w hS => ?_
 refine d_run (k := 9) [(0, 46, ptr bm 0), (1, 47, ptr bm 0), (2, 48, ptr bm 0), (3, 49, ptr bm 6)] ha (.inr hS) (pk_then (pk_body)) fun a ha => ?_
 refine d_ld 4 (d := 50) (b := bm) (j := 6) ha hS (pk_then (pk_body)) (fun _ hw => hw.blk 0 rfl) rfl fun a ha => ?_
 refine d_run (k := 5) [(5, 51, ptr bm 0), (6, 52, ptr bm 0), (7, 53, ptr bm 2)] ha (.inr hS) (pk_then (pk_body)) fun a ha => ?_
 refine d_ld 8 (d := 54) (b := bm) (j := 2) ha hS (pk_then (pk_body)) (fun _ hw => hw.blk 0 rfl) rfl fun a ha => ?_
 refine d_run (k := 1) [(9, 55, .agg #[iv 4, iv 0, .slice s.tr.A s.tr.n s.tr.c, iv m1.made]), (10, 56, ptr bm 0), (11, 57, ptr bm 12)] ha (.inr hS) (pk_then (pk_body)) fun a ha => ?_
 refine d_one (i := 12) (by kernel_rfl) (o_storeAgg 0 ha (iAt (op := (Op.store 54 (Operand.tmp 57) (Operand.tmp 55))) (ty := 0)) rfl rfl rfl (by kernel_rfl) hS rfl (Nat.le_of_ble_eq_true rfl) rfl fun w a hS ha => ?_)
 refine ⟨.inl (by kernel_rfl), ?_⟩
 refine d_end (by kernel_rfl) ?_ _
 replace ha := ha.as [(10, .pointer none), (11, .bool false), (12, ptr bm 0), (13, .pointer none)] rfl
 refine then_n ?_
 refine wp_seq ?_
 refine wp_seq ?_
 refine p_beginL [0, 1] ?_
 refine p_run [(0, 58, .pointer none), (1, 59, .bool false)] ha fun a ha => ?_
 refine p_end ?_
 refine then_n ?_
 refine c_false ha rfl rfl ?_
 refine wp_skip ?_
 refine then_n ?_
 refine wp_seq ?_
 refine p_beginL [0, 1, 2] ?_
 refine p_run [(0, 95, ptr bm 0), (1, 10, ptr bm 0), (2, 11, .bool true)] ha fun a ha => ?_
 refine p_end ?_
 refine then_n ?_
 refine wp_ret ?_
 refine end_tmp2 (t := 10) (u := 11) ha (by kernel_rfl) rfl rfl ?_
 replace hS : Sat w0 w ((SX.blk bm [.slice pv.A pv.n pv.c, iv fuel, iv m1.made, iv m1.shared, iv m1.depth, iv m1.deepest, .slice s.tr.A s.tr.n s.tr.c, .slice s.ow.A s.ow.n s.ow.c, .slice s.ca.A s.ca.n s.ca.c, .slice s.pa.A s.pa.n s.pa.c, .slice s.re.A s.re.n s.re.c, .map (some s.bp), iv 4, iv 0, .slice s.tr.A s.tr.n s.tr.c, iv m1.made] 73) :: (rE s.tr m1.trace) :: (rI s.ow m1.owners) :: (rC s.ca m1.calls) :: (rP s.pa s.us) :: (starL (unwL s.us)) :: (rV s.re m1.recs) :: (mapA s.bp m1.places) :: []) := hS.pickN 9 [0, 1, 2, 3, 4, 5, 6, 7] (by decide) rfl
 refine ⟨bm, rfl, ?_⟩
 have hE : runS (PL l) shared f arg fuel = ⟨(⟨m1.made, m1.shared, m1.depth, m1.deepest, m1.trace, m1.owners, m1.calls, m1.panics, m1.recs, m1.places⟩ : MS), 4, 0⟩ := by unfold runS; rw [hres]; rfl
 rw [hE]
 exact Sat.shutMO (r := ⟨(⟨m1.made, m1.shared, m1.depth, m1.deepest, m1.trace, m1.owners, m1.calls, m1.panics, m1.recs, m1.places⟩ : MS), 4, 0⟩) (⟨s.tr, s.ow, s.ca, s.pa, s.re, s.us, s.bp⟩ : MSl) (hs) hS
end SX
end Go.Proofs.Ytdbbafepjgnmeaa
end
section
namespace Go.Proofs.Ytdbbafepjgnmeaa
namespace SX
open Go.RowKit Go.Proofs.Ytdbbafepjgnmeaa.G Go.Proofs.YtdbbafepjgnmeaaW.PrintWords Go.Proofs.YtdbbafepjgnmeaaW.PrintLast Go.Proofs.YtdbbafepjgnmeaaW.PrintMore
set_option linter.unusedVariables false
set_option linter.unusedSimpArgs false
theorem bodyS_id {fuel : Int} {call : CallT} {steps : List Stp} {p : Option FS} : ∀ (k : Nat) (m : MS) (f : FS) (o : Int) (at_ : Nat) {m' : MS} {f' : FS} {o' : Int}, bodyS fuel call steps p k m f o at_ = .done m' f' o' → f'.id = f.id := by
  intro k
  induction k with
  | zero => intro m f o at_ m' f' o' h; simp [bodyS] at h
  | succ k ih =>
    intro m f o at_ m' f' o' h
    simp only [bodyS] at h
    split at h
    · simp only [R3.done.injEq] at h; obtain ⟨_, rfl, _⟩ := h; rfl
    · split at h
      · cases h
      · split at h
        · exact ih _ _ _ _ h
        · split at h
          · cases h
          · rename_i hst
            simp only [R3.done.injEq] at h; obtain ⟨_, rfl, _⟩ := h
            exact (stepS_fix hst).2.2
          · rename_i hst
            exact (ih _ _ _ _ h).trans (stepS_fix hst).2.2
theorem runsS_id {call : CallT} {p : Option FS} : ∀ (k : Nat) (m : MS) (f : FS) (o : Int) {m' : MS} {f' : FS} {o' : Int}, runsS call k m f p o = .done m' f' o' → f'.id = f.id := by
  intro k
  induction k with
  | zero => intro m f o m' f' o' h; simp only [runsS, R3.done.injEq] at h; obtain ⟨_, rfl, _⟩ := h; rfl
  | succ k ih =>
    intro m f o m' f' o' h
    simp only [runsS] at h
    split at h
    · simp only [R3.done.injEq] at h; obtain ⟨_, rfl, _⟩ := h; rfl
    · split at h
      · cases h
      · rename_i d o1 _
        have := ih _ _ _ h
        rw [this]
        unfold behindF
        (repeat' split) <;> rfl
def valOf (m : MS) (f : FS) : Int := if f.en = 1 then f.r1 else if f.en = 2 then panVal m.panics f.pan else 0
theorem first_val {P : List (List Stp)} (hP : ProgOk P) {fuel shared f arg : Int} (hm : OkM fuel (MS.start shared) (10 + 2)) (h0 : 0 ≤ f) (h1 : f < P.length) {m1 : MS} {f1 : FS} {o1 : Int} (h : callS P fuel 8 (MS.start shared) f arg none 0 false = .done m1 f1 o1) :
    (m1.calls.getD 0 ⟨0, 0, false, 0, 0, 0⟩).val = valOf m1 f1 := by
  have hok := callS_ok hP fuel 7
  have hlt : f.toNat < P.length := by omega
  have hsteps : ∀ s ∈ P.getD f.toNat [], StpOk P.length s := by
    rw [List.getD_eq_getElem?_getD, List.getElem?_eq_getElem hlt]
    exact hP.steps _ (List.getElem_mem hlt)
  simp only [callS] at h
  split at h
  · cases h
  · rename_i m2 f2 o2 hb
    split at h
    · cases h
    · rename_i m3 f3 o3 hr
      simp only [R3.done.injEq] at h
      obtain ⟨rfl, rfl, rfl⟩ := h
      have hme : OkM fuel ((MS.start shared).enter f arg (parId none) false) (10 + 1) := OkM.enter hm _ _ _ _
      have hfe : OkF P.length ((MS.start shared).enter f arg (parId none) false) ((MS.start shared).frame f arg false) := by
        refine ⟨?_, ?_, h0, h1, .inl rfl, fun e => by simp [MS.frame] at e, fun z hz => by simp [MS.frame] at hz⟩
        · simp only [MS.frame]; omega
        · simp only [MS.frame, MS.enter, MS.tell, List.length_append, List.length_cons, List.length_nil]; omega
      obtain ⟨g1, g2, g3⟩ := bodyS_ok (x := 10 + 1) hok hsteps _ _ _ _ _ (by simpa [MS.frame] using hme) hfe hb
      obtain ⟨k1, k2, k3, k4⟩ := runsS_ok (x := 10 + 1) hok _ _ _ _ rfl g1 g3 hr
      have hid : f3.id = 0 := (runsS_id _ _ _ _ hr).trans ((bodyS_id _ _ _ _ _ hb).trans rfl)
      have hl := k3.id1
      rw [hid] at hl
      obtain ⟨c0, hc0⟩ : ∃ c, m3.calls[0]? = some c := ⟨_, List.getElem?_eq_getElem (by omega)⟩
      have e : (finishS m3 f3).calls.getD 0 ⟨0, 0, false, 0, 0, 0⟩ = { c0 with en := f3.en, val := finVal m3 f3 } := by
        simp only [finishS, MS.tell, hid]
        rw [List.getD_eq_getElem?_getD, List.getElem?_modify, Int.toNat_zero, hc0]
        rfl
      show ((finishS m3 f3).calls.getD 0 ⟨0, 0, false, 0, 0, 0⟩).val = _
      rw [e]
      unfold valOf finVal
      simp only [finishS, MS.tell]
      by_cases e1 : f3.en = 1
      · rw [if_pos e1, if_pos e1]
      · rw [if_neg e1, if_neg e1]
        by_cases e2 : f3.en = 2
        · rw [if_pos e2, if_pos e2, if_pos e2, panVal_panAt _ _ (fun x => { x with unw := x.unw ++ [f3.fn] }) (fun _ => rfl)]
        · rw [if_neg e2, if_neg e2]
def qStart (shared : Int) : MQ := { spent := false, shared := shared, made := 0, deep := 0, trace := [], seen := [] }
theorem qStart_ok {shared fuel : Int} (hs : -32768 ≤ shared ∧ shared ≤ 32767) (hf : 0 ≤ fuel ∧ fuel ≤ 200) : OkQ fuel (qStart shared) (10 + 2) := ⟨rfl, Int.le_refl _, hf.1, hf.2, by simp only [qStart, List.length_nil]; omega, by simp [qStart], hs⟩
def qRun (P : List (List Stp)) (shared f arg fuel : Int) : MQ × FQ := qCall P fuel 8 (qStart shared) (FQ.new f 1 arg)
def qKind (q : MQ × FQ) : Int := if q.1.spent = true then 4 else q.2.kind
def qVal (q : MQ × FQ) : Int := if q.1.spent = true then 0 else if q.2.kind = 1 then q.2.r1 else if q.2.kind = 2 then q.2.value else 0
structure Same (q : MQ × FQ) (r : RunR) : Prop where
 kind : qKind q = r.k
 val : qVal q = r.v
 made : q.1.made = r.m.made
 shared : q.1.shared = r.m.shared
 deep : q.1.deep = r.m.deepest
 trace : q.1.trace = r.m.trace
 seen : q.1.seen = r.m.places
theorem run_eq {P : List (List Stp)} (hP : ProgOk P) {shared f arg fuel : Int} (h0 : 0 ≤ f) (h1 : f < P.length) (hf : 0 ≤ fuel ∧ fuel ≤ 200) : Same (qRun P shared f arg fuel) (runS P shared f arg fuel) := by
  have hm := start_ok shared hf.1 hf.2
  have hE := call_eq hP fuel 8 (MS.start shared) (qStart shared) f arg none 0 false (FQ.new f 1 arg) 10 ⟨rfl, rfl, rfl, rfl, rfl⟩ rfl hm (fun q h => by cases h) h0 h1 rfl rfl rfl rfl rfl rfl rfl rfl rfl ⟨rfl, fun h => by simp [FQ.new] at h, fun h => by simp [FQ.new] at h⟩ rfl
  unfold runS qRun
  cases hr : callS P fuel 8 (MS.start shared) f arg none 0 false with
  | spent m1 =>
    rw [hr] at hE
    obtain ⟨e1, e2⟩ := hE
    exact ⟨by unfold qKind; rw [if_pos e1]; rfl, by unfold qVal; rw [if_pos e1]; rfl, e2.made, e2.shared, e2.deep, e2.trace, e2.seen⟩
  | done m1 f1 o1 =>
    rw [hr] at hE
    have hv := first_val hP hm h0 h1 hr
    have hsp : ¬ (qCall P fuel 8 (qStart shared) (FQ.new f 1 arg)).1.spent = true := by rw [hE.sp]; decide
    have rm : RM (runOf (.done m1 f1 o1)).m (qCall P fuel 8 (qStart shared) (FQ.new f 1 arg)).1 := by
      unfold runOf
      dsimp only
      split <;> exact ⟨hE.rm.made, hE.rm.shared, hE.rm.deep, hE.rm.trace, hE.rm.seen⟩
    refine ⟨by unfold qKind; rw [if_neg hsp]; exact hE.rf.en, ?_, rm.made, rm.shared, rm.deep, rm.trace, rm.seen⟩
    show qVal _ = (m1.calls.getD 0 ⟨0, 0, false, 0, 0, 0⟩).val
    rw [hv]
    unfold qVal valOf
    rw [if_neg hsp, hE.rf.en]
    by_cases e1 : f1.en = 1
    · rw [if_pos e1, if_pos e1, hE.rf.a1]
    · rw [if_neg e1, if_neg e1]
      by_cases e2 : f1.en = 2
      · rw [if_pos e2, if_pos e2, hE.rf.val e2]
      · rw [if_neg e2, if_neg e2]
def cellsT (x : Stp) : List Value := [.int .i64 x.k, .int .i64 x.a, .int .i64 x.b]
def encT3 (l : List Stp) : List Value := l.flatMap cellsT
theorem cellsT_len (x : Stp) : (cellsT x).length = 3 := rfl
theorem encT3_length (l : List Stp) : (encT3 l).length = l.length * 3 := flat_length cellsT_len l
theorem encT3_one (l : List Stp) : (encT3 l).all Value.oneCell' = true := by
 rw [List.all_eq_true]
 intro v hv
 obtain ⟨x, _, hx⟩ := List.mem_flatMap.1 hv
 simp only [cellsT, List.mem_cons, List.not_mem_nil, or_false] at hx
 rcases hx with rfl | rfl | rfl <;> rfl
abbrev rowT (x : Sl × List Stp) : Asn := SX.row (.slice x.1.A x.1.n x.1.c) 144 3 (encT3 x.2)
theorem RdBody.cells {w : World} {s : Sl} {b : List Stp} (h : RdBody w s b) : ∀ j u, (encT3 b)[j]? = some u → w.cell? ⟨bk s, of_ s + j, none⟩ = some u := by
  intro j u hu
  have hl := (List.getElem?_eq_some_iff.1 hu).1
  rw [encT3_length] at hl
  have hj : j / 3 < b.length := by omega
  obtain ⟨x, hx⟩ : ∃ x, b[j / 3]? = some x := ⟨_, List.getElem?_eq_getElem hj⟩
  have h3 := h.k _ _ hx
  have h4 := h.a _ _ hx
  have h5 := h.b _ _ hx
  have hc := fun o (ho : o < 3) => flat_get (enc := cellsT) (o := o) cellsT_len hx ho
  have hr : j % 3 = 0 ∨ j % 3 = 1 ∨ j % 3 = 2 := by omega
  rcases hr with e | e | e
  · have e2 : j = j / 3 * 3 + 0 := by omega
    have h6 := hc 0 (by decide)
    rw [← e2, show (b.flatMap cellsT) = encT3 b from rfl, hu] at h6
    rw [e2, Nat.add_zero, h3, h6]
    rfl
  · have e2 : j = j / 3 * 3 + 1 := by omega
    have h6 := hc 1 (by decide)
    rw [← e2, show (b.flatMap cellsT) = encT3 b from rfl, hu] at h6
    rw [e2, ← Nat.add_assoc, h4, h6]
    rfl
  · have e2 : j = j / 3 * 3 + 2 := by omega
    have h6 := hc 2 (by decide)
    rw [← e2, show (b.flatMap cellsT) = encT3 b from rfl, hu] at h6
    rw [e2, ← Nat.add_assoc, h5, h6]
    rfl
theorem own_reads {w0 w : World} {Rs : List Asn} {s : Sl} {us : List (Sl × List Stp)} {P : List (List Stp)} (hus : us.map (·.2) = P) (hS : Sat w0 w (SX.row (.slice s.A s.n s.c) 117 1 (encS (us.map (·.1))) :: starL (us.map rowT) :: Rs)) :
    RdProg w s (us.map (·.1)) P := by
  have hlen : us.length = P.length := by rw [← hus, List.length_map]
  have hn := hS.rowN (s := s) 0 rfl
  rw [encS_length, List.length_map, Nat.mul_one] at hn
  have hrd := hS.rdC (s := s) 0 rfl
  have hA : 0 < P.length → s.A = some ⟨bk s, 0, none⟩ := fun h => hS.rowA (s := s) 0 rfl (by rw [encS_length, List.length_map]; omega)
  have hof : 0 < P.length → of_ s = 0 := fun h => by have h9 := hA h; unfold of_; rw [h9]; rfl
  refine ⟨by omega, fun h => by rw [hof h]; exact hA h, fun i b hb => ?_⟩
  have hi : i < P.length := (List.getElem?_eq_some_iff.1 hb).1
  rw [← hus, List.getElem?_map] at hb
  obtain ⟨x, hx, rfl⟩ := Option.map_eq_some_iff.1 hb
  refine ⟨x.1, by rw [List.getElem?_map, hx]; rfl, ?_, ?_⟩
  · have h9 := hrd.cells i x.1.v (by rw [encS, List.getElem?_map, List.getElem?_map, hx]; rfl)
    rw [hof (by omega), Nat.zero_add]
    exact h9
  · have h1 : Sat w0 w (starL (us.map rowT) :: SX.row (.slice s.A s.n s.c) 117 1 (encS (us.map (·.1))) :: Rs) := hS.perm (List.Perm.swap _ _ _)
    have h2 := Sat.takeAt (g := rowT) hx h1
    have hl := h2.rowL (s := x.1) (enc := cellsT) 0 cellsT_len (by decide) rfl
    have hA2 : 0 < x.2.length → x.1.A = some ⟨bk x.1, 0, none⟩ := fun h => h2.rowA (s := x.1) 0 rfl (by rw [encT3_length]; omega)
    have ho2 : 0 < x.2.length → of_ x.1 = 0 := fun h => by have h9 := hA2 h; unfold of_; rw [h9]; rfl
    have hr2 := h2.rdC (s := x.1) 0 rfl
    have hc : ∀ (j : Nat) (y : Stp), x.2[j]? = some y → ∀ o, o < 3 → w.cell? ⟨bk x.1, of_ x.1 + j * 3 + o, none⟩ = (cellsT y)[o]? := fun j y hy o ho => by
      have hp : 0 < x.2.length := by have := (List.getElem?_eq_some_iff.1 hy).1; omega
      rw [ho2 hp, Nat.zero_add, ← flat_get (enc := cellsT) cellsT_len hy ho]
      obtain ⟨u, hu⟩ : ∃ u, (x.2.flatMap cellsT)[j * 3 + o]? = some u := ⟨_, (flat_get (enc := cellsT) cellsT_len hy ho).trans (List.getElem?_eq_getElem ho)⟩
      rw [hu]
      exact hr2.cells _ _ hu
    exact ⟨hl, fun h => by rw [ho2 h]; exact hA2 h, fun j y hy => by have := hc j y hy 0 (by decide); rw [Nat.add_zero] at this; exact this, fun j y hy => hc j y hy 1 (by decide), fun j y hy => hc j y hy 2 (by decide)⟩
section
variable {P : Program} {R : Array Oper} {Q : Exit → Act → World → Prop} {n : Nat} {e : Env} {a : Act} {w w0 : World} {Rs : List Asn}
theorem run_append_owned_zero (base : Nat) (t ty e : TypeId) (i : TypeInfo) (size : Nat) (ht : P.underlying t = some (.slice e)) (hi : P.info? e = some i)
  (v : Value) (n : Nat) (xs : List Value) (hown : w.ownsRow base e size v n xs) (A : Option Addr) (c : Nat) :
  (Builtin.append_ #[t, t] ty #[v, .slice A 0 c]).run P w = .ok v w := by
 rcases hown.2 with ⟨rfl, rfl⟩ | ⟨g, cap, cur, rfl, _, _, hnc, _⟩
 · cases A <;> simp [Builtin.append_, run_underlying ht, sizeOf, typeInfo, hi, Builtin.lenOf, Builtin.firstCells, loadCells, loadCellsFrom, storeCells]
 · cases A <;> simp [Builtin.append_, run_underlying ht, sizeOf, typeInfo, hi, Builtin.lenOf, Builtin.firstCells, hnc, loadCells, loadCellsFrom, storeCells]
theorem o_appRd0 {i d : Nat} {s x : Operand} {t el ty : TypeId} {sz bytes b : Nat} {u : Sl} {ys : List Value} {z : Value} {K : Act → World → Prop} (p : Nat) (h : Has n e a) (hd : d < n)
    (ho : AtW R i (.call { callee := .builtin .append, args := #[s, x], argTypes := #[t, t] }) (some d) ty a) (hs : ev e s = some (.slice (some ⟨b, 0, none⟩) 0 0)) (hx : ev e x = some (.slice u.A u.n u.c))
    (ht : P.underlying t = some (.slice el)) (hinfo : (P.info? el).map (fun i => (i.zero, i.size, i.bytes)) = some (some z, sz, bytes)) (hz : z.cells.size = sz) (hsz : 0 < sz)
    (hS : Sat w0 w Rs) (hp : Rs[p]? = some (SX.blk b [] el)) (hl : ys.length = u.n * sz) (hA : 0 < u.n → u.A = some ⟨bk u, of_ u, none⟩) (hc : ∀ j v, ys[j]? = some v → w.cell? ⟨bk u, of_ u + j, none⟩ = some v) (h1 : ys.all Value.oneCell' = true) (hlen : ys.length ≤ 1000000000) (hby : bytes ≤ 100000 * sz)
    (k : ∀ (z : Sl) w' a', Sat w0 w' (Rs.set p (SX.row (.slice z.A z.n z.c) el sz ys)) → Has n ((d, .slice z.A z.n z.c) :: e) a' → K a' w') : wpOp P R Q i K a w := by
  obtain ⟨i0, hi, hzz⟩ := Option.map_eq_some_iff.1 hinfo
  simp only [Prod.mk.injEq] at hzz
  obtain ⟨hz0, hz1, hz2⟩ := hzz
  have hpl : p < Rs.length := (List.getElem?_eq_some_iff.1 hp).1
  have hS1 := hS.blk0 sz p hp
  obtain ⟨n0, hown⟩ := hS1.row p (by rw [List.getElem?_set_self hpl])
  have hn0 : n0 = 0 := by
    have h9 := hown.1
    simp only [List.length_nil] at h9
    rcases Nat.eq_zero_or_pos n0 with h0 | h0
    · exact h0
    · have := Nat.mul_pos h0 hsz; omega
  subst hn0
  rcases Nat.eq_zero_or_pos u.n with hu0 | hup
  · rw [hu0] at hx hl
    have hr := run_append_owned_zero (P := P) (w := w) 0 t ty el i0 sz ht hi _ _ _ hown u.A u.c
    have hrun : (execOp (evD e) (opr (.call { callee := .builtin .append, args := #[s, x], argTypes := #[t, t] }) ty)).run P w = .ok (.value (.slice (some ⟨b, 0, none⟩) 0 0)) w := by
      simp [execOp, opr, resolve, invoke, builtin, evD, hs, hx, hr]
    obtain rfl : ys = [] := List.eq_nil_of_length_eq_zero (by omega)
    exact o_val h hd ho (by simp [covers, Op.operands, Call.operands, hs, hx, notSelect]) hrun fun a' ha => k ⟨some ⟨b, 0, none⟩, 0, 0⟩ w a' hS1 ha
  · rw [hA hup] at hx
    have hcells : ∀ j v, ys[j]? = some v → w.cell? ((⟨bk u, of_ u, none⟩ : Addr).add j) = some v := fun j v hv => by rw [add0]; exact hc j v hv
    have hm1 : u.n ≤ 1000000000 := Nat.le_trans (Nat.le_mul_of_pos_right _ hsz) (by omega)
    have hbytes : (0 + u.n) * bytes ≤ 140737488355328 := by
      have h2 : u.n * bytes ≤ u.n * (100000 * sz) := Nat.mul_le_mul_left _ hby
      have h3 : u.n * (100000 * sz) = 100000 * (u.n * sz) := by rw [Nat.mul_left_comm]
      rw [Nat.zero_add]
      omega
    obtain ⟨v', w', hr, h2, h3, h4, h5⟩ := run_append_own_at (P := P) w 0 t ty el i0 z sz bytes ht hi hz0 hz1 hz2 hz hsz _ 0 [] hown ⟨bk u, of_ u, none⟩ u.n u.c ys hl hcells (fun v hv => List.all_eq_true.1 h1 v hv) (by simp only [maxLen]; omega) hbytes (Nat.zero_le _)
    have hrun : (execOp (evD e) (opr (.call { callee := .builtin .append, args := #[s, x], argTypes := #[t, t] }) ty)).run P w = .ok (.value v') w' := by
      simp [execOp, opr, resolve, invoke, builtin, evD, hs, hx, hr]
    have hS' : Sat w0 w' (Rs.set p (SX.row v' el sz ys)) := by
      have h9 := hS1.upd (i := p) (R := SX.row (.slice (some ⟨b, 0, none⟩) 0 0) el sz []) (w' := w') (by rw [List.getElem?_set_self hpl]) (SX.row v' el sz ys) h3.os h3.tape h3.output h3.size fun F hF => ⟨fun k => v'.ownBlock = some k, ⟨fun _ => Iff.rfl, _, by simpa using h2⟩, fun k hk => ?_, fun k hk hF' => h3.block k hk fun e => hF' ((hF.1 k).2 e.symm)⟩
      · rwa [List.set_set] at h9
      · rcases h5 with h5 | h5
        · exact .inl ((hF.1 k).2 (by rw [← h5]; exact hk))
        · rw [h5] at hk
          injection hk with hk
          exact .inr (by omega)
    obtain ⟨A, nn, cc, rfl, hnn⟩ : ∃ A nn cc, v' = .slice A nn cc ∧ nn = 0 + u.n := by
      rcases h2.2 with ⟨rfl, hn0⟩ | ⟨g, cap, cur, rfl, _⟩
      · exact ⟨none, 0, 0, rfl, hn0.symm⟩
      · exact ⟨_, _, cap, rfl, rfl⟩
    exact o_val h hd ho (by simp [covers, Op.operands, Call.operands, hs, hx, notSelect]) hrun fun a' ha => k ⟨A, nn, cc⟩ w' a' hS' ha
end
end SX
end Go.Proofs.Ytdbbafepjgnmeaa
end
section
namespace Go.Proofs.Ytdbbafepjgnmeaa
namespace SX
open Go.RowKit
set_option linter.unusedVariables false
set_option linter.unusedSimpArgs false
open Go.Proofs.Ytdbbafepjgnmeaa.G Go.Proofs.YtdbbafepjgnmeaaW.PrintWords Go.Proofs.YtdbbafepjgnmeaaW.PrintLast Go.Proofs.YtdbbafepjgnmeaaW.PrintMore
theorem code94 : Try.f94.body = some (Code.seq (Code.region 0 (regOf Try.f94 0) false) (Code.seq (Code.region 1 (regOf Try.f94 1) false) (Code.seq (Code.seq (Code.region 2 (regOf Try.f94 2) false) (Code.block 0 (Code.loop (Code.seq (Code.seq (Code.region 3 (regOf Try.f94 3) false) (Code.cond (Operand.tmp 11) Code.skip (Code.exit 0))) (Code.seq (Code.block 1 (Code.region 5 (regOf Try.f94 5) true)) (Code.region 4 (regOf Try.f94 4) false)))))) (Code.seq (Code.region 6 (regOf Try.f94 6) false) Code.ret)))) := by kernel_rfl
set_option maxRecDepth 20000 in
set_option maxHeartbeats 1000000 in
theorem q_own {w0 w : World} {Rs : List Asn} {P : List (List Stp)} {pv : Sl} {sbs : List Sl} (hS : Sat w0 w Rs) (hl : P.length ≤ 6) (h8 : ∀ b ∈ P, b.length ≤ 8) (hPr : Keeps w0 Rs (fun w => RdProg w pv sbs P)) :
  Calls Try.prog 94 #[.agg #[.slice pv.A pv.n pv.c]] w (Ret fun r w' => ∃ (o : Sl) (us : List (Sl × List Stp)), us.map (·.2) = P ∧ r = .agg #[.slice o.A o.n o.c] ∧ Sat w0 w' (SX.row (.slice o.A o.n o.c) 117 1 (encS (us.map (·.1))) :: starL (us.map rowT) :: Rs)) := by
 have hpn := (hPr w hS).len
 have hpA := (hPr w hS).A
 refine enter (n := 27) Try.func94 code94 (by kernel_rfl) (Nat.le_of_ble_eq_true rfl) (fun a ha => ?_)
 replace ha : Has 27 [(0, .agg #[.slice pv.A pv.n pv.c])] a := ha
 refine wp_seq ?_
 refine p_beginL [0, 1] ?_
 refine p_op (o_new (cs := [.slice pv.A pv.n pv.c]) (T := 31) (fun b => .pointer (some ⟨b, 0, none⟩)) ha (by decide) (iAt (op := (Op.box 31 (Operand.tmp 0))) (d := some 1) (ty := 0)) (by kernel_rfl) hS (fun _ => by kernel_rfl) fun b1 w a hb2 hS ha => ?_)
 refine p_op (o_new (cs := [.slice none 0 0]) (T := 31) (fun b => .pointer (some ⟨b, 0, none⟩)) ha (by decide) (iAt (op := (Op.alloc 31)) (d := some 2) (ty := 0)) (by kernel_rfl) hS (fun _ => by kernel_rfl) fun b3 w a hb4 hS ha => ?_)
 refine p_end ?_
 refine then_n ?_
 refine wp_seq ?_
 refine p_beginL [0, 1, 2, 3] ?_
 refine p_op (o_new (cs := []) (T := 117) (fun b => .slice (some ⟨b, 0, none⟩) 0 0) ha (by decide) (iAt (op := (Op.buildSlice 29 0 #[])) (d := some 5) (ty := 29)) (by kernel_rfl) hS (fun _ => by kernel_rfl) fun b5 w a hb6 hS ha => ?_)
 refine p_run [(1, 6, .agg #[.slice (some ⟨b5, 0, none⟩) 0 0])] ha fun a ha => ?_
 refine p_op (o_new (cs := [.slice none 0 0]) (T := 31) (fun b => .pointer (some ⟨b, 0, none⟩)) ha (by decide) (iAt (op := (Op.alloc 31)) (d := some 3) (ty := 0)) (by kernel_rfl) hS (fun _ => by kernel_rfl) fun b7 w a hb8 hS ha => ?_)
 refine p_op (o_storeAgg 0 ha (iAt (op := (Op.store 31 (Operand.tmp 3) (Operand.tmp 6))) (ty := 0)) rfl rfl rfl (by kernel_rfl) hS rfl (Nat.le_of_ble_eq_true rfl) rfl fun w a hS ha => ?_)
 refine p_end ?_
 refine then_n ?_
 refine wp_seq ?_
 refine wp_seq ?_
 refine p_beginL [0] ?_
 refine p_run [(0, 4, iv 0)] ha fun a ha => ?_
 refine p_end ?_
 refine then_n ?_
 refine wp_block ?_
 replace hS := Sat.merge (l := []) (hS.blk0 1 1 rfl)
 replace hS : Sat w0 w ((SX.blk b1 [.slice pv.A pv.n pv.c] 31) :: (SX.blk b3 [.slice none 0 0] 31) :: (SX.blk b7 [.slice (some ⟨b5, 0, none⟩) 0 0] 31) :: (SX.row (.slice ((⟨some ⟨b5, 0, none⟩, 0, 0⟩ : Sl).A) ((⟨some ⟨b5, 0, none⟩, 0, 0⟩ : Sl).n) ((⟨some ⟨b5, 0, none⟩, 0, 0⟩ : Sl).c)) 117 1 (encS (([] : List (Sl × List Stp)).map (·.1)))) :: (starL []) :: Rs) := hS.pickN 5 [4, 3, 1, 2, 0] (by decide) rfl
 refine wp_loop_ghost (fun n_ a_ w_ => ∃ (i : Nat) (us : List (Sl × List Stp)) (o : Sl), n_ = P.length - i ∧ (i ≤ P.length) ∧ (us.map (·.2) = P.take i) ∧ Has 27 [(1, ptr b1 0), (2, ptr b3 0), (3, ptr b7 0), (4, iv (i : Int))] a_ ∧ Sat w0 w_ ((SX.blk b1 [.slice pv.A pv.n pv.c] 31) :: (SX.blk b3 [.slice none 0 0] 31) :: (SX.blk b7 [.slice o.A o.n o.c] 31) :: (SX.row (.slice o.A o.n o.c) 117 1 (encS (us.map (·.1)))) :: (starL (us.map rowT)) :: Rs)) _ ⟨0, [], ⟨some ⟨b5, 0, none⟩, 0, 0⟩, rfl, Nat.zero_le _, rfl, ha.keeps [1, 2, 3, 4] _ rfl, hS⟩ ?_
 -- the loop's round
 rintro n_ a w ⟨i, us, o, rfl, hi, hus, ha, hS⟩
 refine wp_seq ?_
 refine wp_seq ?_
 refine p_beginL [0, 1, 2, 3, 4] ?_
 refine p_run [(0, 7, iv (i : Int)), (1, 8, ptr b1 0)] ha fun a ha => ?_
 refine p_ld (d := 9) (b := b1) (j := 0) ha (hS.blk 0 rfl) rfl fun a ha => ?_
 refine p_run [(3, 10, iv (pv.n : Int)), (4, 11, .bool (decide ((i : Int) < (pv.n : Int))))] ha fun a ha => ?_
 refine p_end ?_
 refine then_n ?_
 by_cases c9 : (i : Int) < (pv.n : Int)
 ·
  have hlt : i < P.length := by have := c9; omega
  obtain ⟨body, hb⟩ : ∃ b, P[i]? = some b := ⟨_, List.getElem?_eq_getElem hlt⟩
  obtain ⟨sb, hbn, hbA, hsb⟩ := RdProg.body hPr (Sat.rest [_, _, _, _, _] hS) hb
  refine c_true ha rfl (decide_eq_true c9) ?_
  refine wp_skip ?_
  refine then_n ?_
  refine wp_seq ?_
  refine wp_block ?_
  refine d_startP 12 13 (hS.pickN 5 [0, 1, 2] (by decide) rfl) hS fun w hS => ?_
  refine d_run (k := 12) [(0, 14, ptr b7 0)] ha (.inr (hS.pickN 5 [0, 1, 2] (by decide) rfl)) (pk_in (pk_then (pk_then (pk_in (pk_then (pk_body)))))) fun a ha => ?_
  refine d_ld 1 (d := 15) (b := b7) (j := 0) ha (hS.pickN 5 [0, 1, 2] (by decide) rfl) (pk_in (pk_then (pk_then (pk_in (pk_then (pk_body)))))) (fun _ hw => hw.blk 2 rfl) rfl fun a ha => ?_
  refine d_run (k := 10) [(3, 17, ptr b1 0)] ha (.inr (hS.pickN 5 [0, 1, 2] (by decide) rfl)) (pk_in (pk_then (pk_then (pk_in (pk_then (pk_body)))))) fun a ha => ?_
  refine d_ld 4 (d := 18) (b := b1) (j := 0) ha (hS.pickN 5 [0, 1, 2] (by decide) rfl) (pk_in (pk_then (pk_then (pk_in (pk_then (pk_body)))))) (fun _ hw => hw.blk 0 rfl) rfl fun a ha => ?_
  refine d_run (k := 8) [(5, 19, iv (i : Int))] ha (.inr (hS.pickN 5 [0, 1, 2] (by decide) rfl)) (pk_in (pk_then (pk_then (pk_in (pk_then (pk_body)))))) fun a ha => ?_
  refine d_pure (i := 6) (v := .pointer (some ⟨bk pv, of_ pv + i * 1, none⟩)) ha (by decide) (v_indexR (s := pv) (el := 117) (sz := 1) (j := i) ha (iAt (op := (Op.indexAddr 29 (Operand.tmp 18) (Operand.tmp 19))) (d := some 20) (ty := 0)) rfl rfl (by kernel_rfl) (by kernel_rfl) (hpA (by omega)) (by omega)) (.inr (hS.pickN 5 [0, 1, 2] (by decide) rfl)) (by kernel_rfl) (by kernel_rfl) (pk_in (pk_then (pk_then (pk_in (pk_then (pk_body)))))) fun a ha => ?_
  refine d_val (i := 7) (v := .slice sb.A sb.n sb.c) ha (by decide) (v_loadC (v := .slice sb.A sb.n sb.c) ha (iAt (op := (Op.load 117 (Operand.tmp 20))) (d := some 21) (ty := 117)) rfl (by kernel_rfl) (fun w' hw => by rw [Nat.mul_one]; exact ((hsb.more [_, _, _]) _ hw).1)) (hS.pickN 5 [0, 1, 2] (by decide) rfl) (by kernel_rfl) (by kernel_rfl) (pk_in (pk_then (pk_then (pk_in (pk_then (pk_body)))))) fun a ha => ?_
  refine d_one (i := 2) (by kernel_rfl) (o_new (cs := []) (T := 144) (fun b => .slice (some ⟨b, 0, none⟩) 0 0) ha (by decide) (iAt (op := (Op.buildSlice 117 0 #[])) (d := some 16) (ty := 117)) (by kernel_rfl) hS (fun _ => by kernel_rfl) fun b10 w a hb11 hS ha => ?_)
  refine ⟨.inr (hS.pickN 6 [1, 2, 3] (by decide) rfl), ?_⟩
  refine d_one (i := 8) (by kernel_rfl) (o_appRd0 (u := sb) (z := .agg #[iv 0, iv 0, iv 0]) (sz := 3) (bytes := 24) (ys := encT3 body) 0 ha (by decide) (iAt (op := (Op.call { callee := (Callee.builtin Builtin.append), args := #[(Operand.tmp 16), (Operand.tmp 21)], argTypes := #[117, 117] })) (d := some 22) (ty := 117)) rfl rfl (by kernel_rfl) (by kernel_rfl) rfl (by decide) hS rfl (by rw [encT3_length, hbn]) (fun h => hbA (by omega)) ((hsb.more [_, _, _, _, _, _]) _ hS).2.cells (encT3_one _) (by rw [encT3_length]; have := h8 body (List.mem_of_getElem? hb); omega) (by decide) fun s12 w a hS ha => ?_)
  refine ⟨.inr (hS.pickN 6 [1, 2, 3] (by decide) rfl), ?_⟩
  refine d_one (i := 9) (by kernel_rfl) (o_new (cs := [.slice s12.A s12.n s12.c]) (T := 117) (fun b => .slice (some ⟨b, 0, none⟩) 1 1) ha (by decide) (iAt (op := (Op.buildSlice 29 1 #[(0, (Operand.tmp 22))])) (d := some 23) (ty := 29)) (by kernel_rfl) hS (fun _ => by kernel_rfl) fun b13 w a hb14 hS ha => ?_)
  refine ⟨.inr (hS.pickN 7 [2, 3, 4] (by decide) rfl), ?_⟩
  refine d_one (i := 10) (by kernel_rfl) (o_appE (news := [.slice s12.A s12.n s12.c]) (z := .slice none 0 0) (sz := 1) (bytes := 24) (T2 := 117) (xs' := encS ((us.map (·.1)) ++ [s12])) 5 0 ha (by decide) (iAt (op := (Op.call { callee := (Callee.builtin Builtin.append), args := #[(Operand.tmp 15), (Operand.tmp 23)], argTypes := #[29, 29] })) (d := some 24) (ty := 29)) rfl rfl (by kernel_rfl) (by kernel_rfl) rfl (by decide) hS rfl rfl (by simp) rfl (by rw [encS_length, List.length_map]; have h9 := congrArg List.length hus; rw [List.length_map, List.length_take] at h9; simp only [List.length_cons, List.length_nil]; omega) (by decide) (encS_snoc _ _) fun s18 w a hS hn19 ha => ?_)
  refine ⟨.inr (hS.pickN 7 [2, 3, 4] (by decide) rfl), ?_⟩
  refine d_run (k := 1) [(11, 25, ptr b7 0)] ha (.inr (hS.pickN 7 [2, 3, 4] (by decide) rfl)) (pk_in (pk_then (pk_then (pk_in (pk_then (pk_body)))))) fun a ha => ?_
  refine d_one (i := 12) (by kernel_rfl) (o_st b7 0 (.slice s18.A s18.n s18.c) 4 ha hS rfl rfl fun w a hS ha => ?_)
  refine ⟨.inl (by kernel_rfl), ?_⟩
  refine d_end (by kernel_rfl) ?_ _
  refine in_n ?_
  refine then_n ?_
  refine p_beginL [0, 1, 2] ?_
  refine p_run [(0, 12, iv (i : Int))] ha fun a ha => ?_
  refine p_val (v := iv ((i : Int) + 1)) ha (by decide) ((v_pure (v := .int .i64 (IntKind.i64.wrap ((i : Int) + 1))) ha (iAt (op := (Op.binOp BinOp.add 3 (Operand.tmp 12) (Operand.const (Value.int IntKind.i64 1)) 3)) (d := some 13) (ty := 3)) (by kernel_rfl) (fun _ => by kernel_rfl)).as (by rw [wrap_i64 (by omega) (by omega)])) (fun a ha => ?_)
  refine p_run [(2, 4, iv ((i : Int) + 1))] ha fun a ha => ?_
  refine p_end ?_
  refine then_n ?_
  replace hS : Sat w0 w ((SX.row (.slice s12.A s12.n s12.c) 144 3 (encT3 body)) :: (starL (us.map rowT)) :: (SX.blk b1 [.slice pv.A pv.n pv.c] 31) :: (SX.blk b3 [.slice none 0 0] 31) :: (SX.blk b7 [.slice s18.A s18.n s18.c] 31) :: (SX.row (.slice s18.A s18.n s18.c) 117 1 (encS ((us.map (·.1)) ++ [s12]))) :: Rs) := hS.pickN 7 [1, 6, 2, 3, 4, 5] (by decide) rfl
  replace hS : Sat w0 w ((starL ((us ++ [(s12, body)]).map rowT)) :: (SX.blk b1 [.slice pv.A pv.n pv.c] 31) :: (SX.blk b3 [.slice none 0 0] 31) :: (SX.blk b7 [.slice s18.A s18.n s18.c] 31) :: (SX.row (.slice s18.A s18.n s18.c) 117 1 (encS ((us.map (·.1)) ++ [s12]))) :: Rs) := by have hh := Sat.gainLast (R := rowT (s12, body)) hS; rw [List.map_append]; exact hh
  replace hS : Sat w0 w ((starL ((us ++ [(s12, body)]).map rowT)) :: (SX.blk b1 [.slice pv.A pv.n pv.c] 31) :: (SX.blk b3 [.slice none 0 0] 31) :: (SX.blk b7 [.slice s18.A s18.n s18.c] 31) :: (SX.row (.slice s18.A s18.n s18.c) 117 1 (encS ((us ++ [(s12, body)]).map (·.1)))) :: Rs) := by rw [show (us ++ [(s12, body)]).map (·.1) = us.map (·.1) ++ [s12] by rw [List.map_append]; rfl]; exact hS
  replace hS : Sat w0 w ((SX.blk b1 [.slice pv.A pv.n pv.c] 31) :: (SX.blk b3 [.slice none 0 0] 31) :: (SX.blk b7 [.slice s18.A s18.n s18.c] 31) :: (SX.row (.slice s18.A s18.n s18.c) 117 1 (encS ((us ++ [(s12, body)]).map (·.1)))) :: (starL ((us ++ [(s12, body)]).map rowT)) :: Rs) := hS.pickN 5 [1, 2, 3, 4, 0] (by decide) rfl
  exact ⟨_, by omega, i + 1, us ++ [(s12, body)], s18, rfl, by omega, by rw [List.map_append, hus, List.take_add_one, hb]; rfl, ha.keeps [1, 2, 3, 4] _ rfl, hS⟩
 ·
  refine c_false ha rfl (decide_eq_false c9) ?_
  refine wp_exit ?_
  refine then_x ?_
  refine then_x ?_
  refine in_x ?_
  refine then_n ?_
  refine wp_seq ?_
  refine p_beginL [0, 1] ?_
  refine p_val ha (by decide) (v_loadW ha (iAt (op := (Op.load 31 (Operand.tmp 3))) (d := some 26) (ty := 31)) rfl (by kernel_rfl) (fun _ hw => by rw [hw]; exact hS.blk 2 rfl)) (fun a ha => ?_)
  refine p_op (o_storeAgg 1 ha (iAt (op := (Op.store 31 (Operand.tmp 2) (Operand.tmp 26))) (ty := 0)) rfl rfl rfl (by kernel_rfl) hS rfl (Nat.le_of_ble_eq_true rfl) rfl fun w a hS ha => ?_)
  refine p_end ?_
  refine then_n ?_
  refine wp_ret ?_
  refine end_res1 ha (by kernel_rfl) (resC (t := 2) (ty := 31) (i := 1) ha rfl hS rfl (by kernel_rfl)) ?_
  replace hS : Sat w0 w ((SX.row (.slice o.A o.n o.c) 117 1 (encS (us.map (·.1)))) :: (starL (us.map rowT)) :: Rs) := hS.pickN 5 [3, 4] (by decide) rfl
  have hie : i = P.length := by have := c9; omega
  exact ⟨o, us, by rw [hus, hie, List.take_length], rfl, hS⟩
theorem code81 : Try.f81.body = some (Code.seq (Code.region 0 (regOf Try.f81 0) false) (Code.seq (Code.region 1 (regOf Try.f81 1) false) (Code.seq (Code.block 0 (Code.seq (Code.region 2 (regOf Try.f81 2) false) (Code.cond (Operand.tmp 13) (Code.region 3 (regOf Try.f81 3) false) (Code.seq (Code.region 4 (regOf Try.f81 4) false) (Code.cond (Operand.tmp 17) (Code.region 5 (regOf Try.f81 5) false) (Code.seq (Code.region 6 (regOf Try.f81 6) false) (Code.cond (Operand.tmp 25) (Code.region 7 (regOf Try.f81 7) false) Code.skip))))))) (Code.seq (Code.region 8 (regOf Try.f81 8) false) Code.ret)))) := by kernel_rfl
set_option maxRecDepth 20000 in
set_option maxHeartbeats 1000000 in
theorem q_told {w0 w : World} {Rs : List Asn} {o : Sl} {fuel : Int} (q : MQ) (c : FQ) {tr se df : Sl} (hS : Sat w0 w Rs) :
  Calls Try.prog 81 #[mV o fuel q tr se, cV c df] w (Ret fun r w' => r = oG (qKind (q, c)) (qVal (q, c)) tr q.made ∧ Sat w0 w' Rs) := by
 refine enter (n := 33) Try.func81 code81 (by kernel_rfl) (Nat.le_of_ble_eq_true rfl) (fun a ha => ?_)
 replace ha : Has 33 [(0, (mG o fuel q.spent q.shared q.made q.deep tr se)), (1, (cG c.f c.depth c.r0 c.r1 c.r2 c.r3 df c.kind c.value c.leaving c.deferred c.panicking c.panic c.recovered c.outer))] a := ha
 refine wp_seq ?_
 refine p_beginL [0, 1, 2] ?_
 refine p_op (o_new (cs := (mL o fuel q.spent q.shared q.made q.deep tr se)) (T := 110) (fun b => .pointer (some ⟨b, 0, none⟩)) ha (by decide) (iAt (op := (Op.box 110 (Operand.tmp 0))) (d := some 2) (ty := 0)) (by kernel_rfl) hS (fun _ => by kernel_rfl) fun b1 w a hb2 hS ha => ?_)
 refine p_op (o_new (cs := (cL c.f c.depth c.r0 c.r1 c.r2 c.r3 df c.kind c.value c.leaving c.deferred c.panicking c.panic c.recovered c.outer)) (T := 113) (fun b => .pointer (some ⟨b, 0, none⟩)) ha (by decide) (iAt (op := (Op.box 113 (Operand.tmp 1))) (d := some 3) (ty := 0)) (by kernel_rfl) hS (fun _ => by kernel_rfl) fun b3 w a hb4 hS ha => ?_)
 refine p_op (o_new (cs := [iv 0, iv 0, .slice none 0 0, iv 0]) (T := 54) (fun b => .pointer (some ⟨b, 0, none⟩)) ha (by decide) (iAt (op := (Op.alloc 54)) (d := some 4) (ty := 0)) (by kernel_rfl) hS (fun _ => by kernel_rfl) fun b5 w a hb6 hS ha => ?_)
 refine p_end ?_
 refine then_n ?_
 refine wp_seq ?_
 refine p_beginL [0, 1, 2, 3, 4, 5, 6, 7, 8] ?_
 refine p_run [(0, 6, ptr b3 7)] ha fun a ha => ?_
 refine p_ld (d := 7) (b := b3) (j := 7) ha (hS.blk 1 rfl) rfl fun a ha => ?_
 refine p_run [(2, 8, ptr b1 6)] ha fun a ha => ?_
 refine p_ld (d := 9) (b := b1) (j := 6) ha (hS.blk 2 rfl) rfl fun a ha => ?_
 refine p_run [(4, 10, ptr b1 4)] ha fun a ha => ?_
 refine p_ld (d := 11) (b := b1) (j := 4) ha (hS.blk 2 rfl) rfl fun a ha => ?_
 refine p_run [(6, 12, (oG c.kind 0 tr q.made))] ha fun a ha => ?_
 refine p_op (o_new (cs := [iv 0, iv 0, .slice none 0 0, iv 0]) (T := 54) (fun b => .pointer (some ⟨b, 0, none⟩)) ha (by decide) (iAt (op := (Op.alloc 54)) (d := some 5) (ty := 0)) (by kernel_rfl) hS (fun _ => by kernel_rfl) fun b7 w a hb8 hS ha => ?_)
 refine p_op (o_storeAgg 0 ha (iAt (op := (Op.store 54 (Operand.tmp 5) (Operand.tmp 12))) (ty := 0)) rfl rfl rfl (by kernel_rfl) hS rfl (Nat.le_of_ble_eq_true rfl) rfl fun w a hS ha => ?_)
 refine p_end ?_
 refine then_n ?_
 refine wp_seq ?_
 refine wp_block ?_
 refine wp_seq ?_
 refine p_beginL [0, 1, 2] ?_
 refine p_run [(0, 14, ptr b1 2)] ha fun a ha => ?_
 refine p_ld (d := 15) (b := b1) (j := 2) ha (hS.blk 3 rfl) rfl fun a ha => ?_
 refine p_run [(2, 13, .bool q.spent)] ha fun a ha => ?_
 refine p_end ?_
 refine then_n ?_
 rcases Bool.eq_false_or_eq_true q.spent with c9 | c9
 ·
  refine c_true ha rfl c9 ?_
  refine p_beginL [0, 1] ?_
  refine p_run [(0, 16, ptr b7 0)] ha fun a ha => ?_
  refine p_op (o_st b7 0 (iv 4) 0 ha hS rfl rfl fun w a hS ha => ?_)
  refine p_end ?_
  refine in_n ?_
  refine then_n ?_
  refine wp_seq ?_
  refine p_beginL [0, 1] ?_
  refine p_val ha (by decide) (v_loadW ha (iAt (op := (Op.load 54 (Operand.tmp 5))) (d := some 32) (ty := 54)) rfl (by kernel_rfl) (fun _ hw => by rw [hw]; exact hS.blk 0 rfl)) (fun a ha => ?_)
  refine p_op (o_storeAgg 1 ha (iAt (op := (Op.store 54 (Operand.tmp 4) (Operand.tmp 32))) (ty := 0)) rfl rfl rfl (by kernel_rfl) hS rfl (Nat.le_of_ble_eq_true rfl) rfl fun w a hS ha => ?_)
  refine p_end ?_
  refine then_n ?_
  refine wp_ret ?_
  refine end_res1 ha (by kernel_rfl) (resC (t := 4) (ty := 54) (i := 1) ha rfl hS rfl (by kernel_rfl)) ?_
  have e1 : qKind (q, c) = 4 := by unfold qKind; simp only [c9, if_true, if_false, Bool.false_eq_true]
  have e2 : qVal (q, c) = 0 := by unfold qVal; simp only [c9, if_true, if_false, Bool.false_eq_true, show ¬ ((2 : Int) = 1) by decide]
  rw [e1, e2]
  exact ⟨rfl, Sat.rest [_, _, _, _] hS⟩
 ·
  refine c_false ha rfl c9 ?_
  refine wp_seq ?_
  refine p_beginL [0, 1, 2, 3] ?_
  refine p_run [(0, 18, ptr b3 7)] ha fun a ha => ?_
  refine p_ld (d := 19) (b := b3) (j := 7) ha (hS.blk 2 rfl) rfl fun a ha => ?_
  refine p_run [(2, 20, .bool (decide (c.kind = 1))), (3, 17, .bool (decide (c.kind = 1)))] ha fun a ha => ?_
  refine p_end ?_
  refine then_n ?_
  by_cases c10 : c.kind = 1
  ·
   refine c_true ha rfl (decide_eq_true c10) ?_
   refine p_beginL [0, 1, 2, 3, 4] ?_
   refine p_run [(0, 21, ptr b3 2), (1, 22, ptr b3 3)] ha fun a ha => ?_
   refine p_ld (d := 23) (b := b3) (j := 3) ha (hS.blk 2 rfl) rfl fun a ha => ?_
   refine p_run [(3, 24, ptr b7 1)] ha fun a ha => ?_
   refine p_op (o_st b7 1 (iv c.r1) 0 ha hS rfl rfl fun w a hS ha => ?_)
   refine p_end ?_
   replace ha := ha.as [(4, ptr b5 0), (5, ptr b7 0)] rfl
   refine in_n ?_
   refine then_n ?_
   refine wp_seq ?_
   refine p_beginL [0, 1] ?_
   refine p_val ha (by decide) (v_loadW ha (iAt (op := (Op.load 54 (Operand.tmp 5))) (d := some 32) (ty := 54)) rfl (by kernel_rfl) (fun _ hw => by rw [hw]; exact hS.blk 0 rfl)) (fun a ha => ?_)
   refine p_op (o_storeAgg 1 ha (iAt (op := (Op.store 54 (Operand.tmp 4) (Operand.tmp 32))) (ty := 0)) rfl rfl rfl (by kernel_rfl) hS rfl (Nat.le_of_ble_eq_true rfl) rfl fun w a hS ha => ?_)
   refine p_end ?_
   refine then_n ?_
   refine wp_ret ?_
   refine end_res1 ha (by kernel_rfl) (resC (t := 4) (ty := 54) (i := 1) ha rfl hS rfl (by kernel_rfl)) ?_
   have e1 : qKind (q, c) = c.kind := by unfold qKind; simp only [c9, c10, if_true, if_false, Bool.false_eq_true]
   have e2 : qVal (q, c) = c.r1 := by unfold qVal; simp only [c9, c10, if_true, if_false, Bool.false_eq_true, show ¬ ((2 : Int) = 1) by decide]
   rw [e1, e2]
   exact ⟨rfl, Sat.rest [_, _, _, _] hS⟩
  ·
   refine c_false ha rfl (decide_eq_false c10) ?_
   refine wp_seq ?_
   refine p_beginL [0, 1, 2, 3] ?_
   refine p_run [(0, 26, ptr b3 7)] ha fun a ha => ?_
   refine p_ld (d := 27) (b := b3) (j := 7) ha (hS.blk 2 rfl) rfl fun a ha => ?_
   refine p_run [(2, 28, .bool (decide (c.kind = 2))), (3, 25, .bool (decide (c.kind = 2)))] ha fun a ha => ?_
   refine p_end ?_
   replace ha := ha.as [(3, ptr b3 0), (4, ptr b5 0), (5, ptr b7 0), (25, .bool (decide (c.kind = 2)))] rfl
   refine then_n ?_
   by_cases c11 : c.kind = 2
   ·
    refine c_true ha rfl (decide_eq_true c11) ?_
    refine p_beginL [0, 1, 2, 3] ?_
    refine p_run [(0, 29, ptr b3 8)] ha fun a ha => ?_
    refine p_ld (d := 30) (b := b3) (j := 8) ha (hS.blk 2 rfl) rfl fun a ha => ?_
    refine p_run [(2, 31, ptr b7 1)] ha fun a ha => ?_
    refine p_op (o_st b7 1 (iv c.value) 0 ha hS rfl rfl fun w a hS ha => ?_)
    refine p_end ?_
    refine in_n ?_
    refine then_n ?_
    refine wp_seq ?_
    refine p_beginL [0, 1] ?_
    refine p_val ha (by decide) (v_loadW ha (iAt (op := (Op.load 54 (Operand.tmp 5))) (d := some 32) (ty := 54)) rfl (by kernel_rfl) (fun _ hw => by rw [hw]; exact hS.blk 0 rfl)) (fun a ha => ?_)
    refine p_op (o_storeAgg 1 ha (iAt (op := (Op.store 54 (Operand.tmp 4) (Operand.tmp 32))) (ty := 0)) rfl rfl rfl (by kernel_rfl) hS rfl (Nat.le_of_ble_eq_true rfl) rfl fun w a hS ha => ?_)
    refine p_end ?_
    refine then_n ?_
    refine wp_ret ?_
    refine end_res1 ha (by kernel_rfl) (resC (t := 4) (ty := 54) (i := 1) ha rfl hS rfl (by kernel_rfl)) ?_
    have e1 : qKind (q, c) = c.kind := by unfold qKind; simp only [c9, c10, c11, if_true, if_false, Bool.false_eq_true]
    have e2 : qVal (q, c) = c.value := by unfold qVal; simp only [c9, c10, c11, if_true, if_false, Bool.false_eq_true, show ¬ ((2 : Int) = 1) by decide]
    rw [e1, e2]
    exact ⟨rfl, Sat.rest [_, _, _, _] hS⟩
   ·
    refine c_false ha rfl (decide_eq_false c11) ?_
    refine wp_skip ?_
    refine in_n ?_
    refine then_n ?_
    refine wp_seq ?_
    refine p_beginL [0, 1] ?_
    refine p_val ha (by decide) (v_loadW ha (iAt (op := (Op.load 54 (Operand.tmp 5))) (d := some 32) (ty := 54)) rfl (by kernel_rfl) (fun _ hw => by rw [hw]; exact hS.blk 0 rfl)) (fun a ha => ?_)
    refine p_op (o_storeAgg 1 ha (iAt (op := (Op.store 54 (Operand.tmp 4) (Operand.tmp 32))) (ty := 0)) rfl rfl rfl (by kernel_rfl) hS rfl (Nat.le_of_ble_eq_true rfl) rfl fun w a hS ha => ?_)
    refine p_end ?_
    refine then_n ?_
    refine wp_ret ?_
    refine end_res1 ha (by kernel_rfl) (resC (t := 4) (ty := 54) (i := 1) ha rfl hS rfl (by kernel_rfl)) ?_
    have e1 : qKind (q, c) = c.kind := by unfold qKind; simp only [c9, c10, c11, if_true, if_false, Bool.false_eq_true]
    have e2 : qVal (q, c) = 0 := by unfold qVal; simp only [c9, c10, c11, if_true, if_false, Bool.false_eq_true, show ¬ ((2 : Int) = 1) by decide]
    rw [e1, e2]
    exact ⟨rfl, Sat.rest [_, _, _, _] hS⟩
theorem code80 : Try.f80.body = some (Code.seq (Code.region 0 (regOf Try.f80 0) false) (Code.seq (Code.region 1 (regOf Try.f80 1) false) (Code.seq (Code.region 2 (regOf Try.f80 2) false) Code.ret))) := by kernel_rfl
set_option maxRecDepth 20000 in
set_option maxHeartbeats 1000000 in
theorem q_whole {w0 w : World} {Rs : List Asn} {P : List (List Stp)} (hP : ProgOk P) {pv : Sl} {sbs : List Sl} {f arg fuel : Int} (hS : Sat w0 w Rs) (hf0 : 0 ≤ f) (hf1 : f < P.length) (harg : -32768 ≤ arg ∧ arg ≤ 32767) (hfu : 0 ≤ fuel ∧ fuel ≤ 200) (hPr : Keeps w0 Rs (fun w => RdProg w pv sbs P)) :
  Calls Try.prog 80 #[.agg #[.slice pv.A pv.n pv.c], .int .i64 f, .int .i64 arg, .int .i64 fuel] w (Ret fun r w' => ∃ (q : MQ × FQ) (o tr se df : Sl), q = qRun P 0 f arg fuel ∧ r = .tuple #[mV o fuel q.1 tr se, cV q.2 df] ∧ Sat w0 w' (rE tr q.1.trace :: rS se q.1.seen :: Rs)) := by
 have hsh : -32768 ≤ (0 : Int) ∧ (0 : Int) ≤ 32767 := by decide
 refine enter (n := 24) Try.func80 code80 (by kernel_rfl) (Nat.le_of_ble_eq_true rfl) (fun a ha => ?_)
 replace ha : Has 24 [(0, .agg #[.slice pv.A pv.n pv.c]), (1, iv f), (2, iv arg), (3, iv fuel)] a := ha
 refine wp_seq ?_
 refine p_beginL [0, 1, 2] ?_
 refine p_op (o_new (cs := [.slice pv.A pv.n pv.c]) (T := 31) (fun b => .pointer (some ⟨b, 0, none⟩)) ha (by decide) (iAt (op := (Op.box 31 (Operand.tmp 0))) (d := some 4) (ty := 0)) (by kernel_rfl) hS (fun _ => by kernel_rfl) fun b1 w a hb2 hS ha => ?_)
 refine p_op (o_new (cs := (mL (⟨none, 0, 0⟩) 0 false 0 0 0 (⟨none, 0, 0⟩) (⟨none, 0, 0⟩))) (T := 110) (fun b => .pointer (some ⟨b, 0, none⟩)) ha (by decide) (iAt (op := (Op.alloc 110)) (d := some 8) (ty := 0)) (by kernel_rfl) hS (fun _ => by kernel_rfl) fun b3 w a hb4 hS ha => ?_)
 refine p_op (o_new (cs := (cL 0 0 0 0 0 0 (⟨none, 0, 0⟩) 0 0 false false false 0 false 0)) (T := 113) (fun b => .pointer (some ⟨b, 0, none⟩)) ha (by decide) (iAt (op := (Op.alloc 113)) (d := some 9) (ty := 0)) (by kernel_rfl) hS (fun _ => by kernel_rfl) fun b5 w a hb6 hS ha => ?_)
 refine p_end ?_
 refine then_n ?_
 refine wp_seq ?_
 refine p_beginL [0, 1, 2, 3, 4, 5, 6] ?_
 refine p_val ha (by decide) (v_loadW ha (iAt (op := (Op.load 31 (Operand.tmp 4))) (d := some 11) (ty := 31)) rfl (by kernel_rfl) (fun _ hw => by rw [hw]; exact hS.blk 2 rfl)) (fun a ha => ?_)
 refine p_op (o_ret ha (by decide) (iAt (op := (Op.call { callee := (Callee.value (Operand.func 94)), args := #[(Operand.tmp 11)], argTypes := #[31] })) (d := some 12) (ty := 31)) rfl Try.func94 (by kernel_rfl) (q_own hS hP.few hP.short (hPr.more [_, _, _])) fun v7 w a hp8 ha => ?_)
 obtain ⟨o, us, hus, rfl, hS⟩ := hp8
 refine p_run [(2, 13, iv fuel)] ha fun a ha => ?_
 refine p_op (o_new (cs := []) (T := 63) (fun b => .slice (some ⟨b, 0, none⟩) 0 0) ha (by decide) (iAt (op := (Op.buildSlice 52 0 #[])) (d := some 14) (ty := 52)) (by kernel_rfl) hS (fun _ => by kernel_rfl) fun b9 w a hb10 hS ha => ?_)
 refine p_run [(4, 15, .agg #[.slice o.A o.n o.c, iv fuel, .bool false, iv 0, iv 0, iv 0, .slice (some ⟨b9, 0, none⟩) 0 0, .slice none 0 0])] ha fun a ha => ?_
 refine p_op (o_new (cs := (mL (⟨none, 0, 0⟩) 0 false 0 0 0 (⟨none, 0, 0⟩) (⟨none, 0, 0⟩))) (T := 110) (fun b => .pointer (some ⟨b, 0, none⟩)) ha (by decide) (iAt (op := (Op.alloc 110)) (d := some 10) (ty := 0)) (by kernel_rfl) hS (fun _ => by kernel_rfl) fun b11 w a hb12 hS ha => ?_)
 refine p_op (o_storeAgg 0 ha (iAt (op := (Op.store 110 (Operand.tmp 10) (Operand.tmp 15))) (ty := 0)) rfl rfl rfl (by kernel_rfl) hS rfl (Nat.le_of_ble_eq_true rfl) rfl fun w a hS ha => ?_)
 refine p_end ?_
 refine then_n ?_
 refine wp_seq ?_
 refine p_beginL [0, 1, 2, 3, 4, 5, 6, 7, 8, 9] ?_
 refine p_val ha (by decide) (v_loadW ha (iAt (op := (Op.load 110 (Operand.tmp 10))) (d := some 16) (ty := 110)) rfl (by kernel_rfl) (fun _ hw => by rw [hw]; exact hS.blk 0 rfl)) (fun a ha => ?_)
 refine p_run [(1, 17, iv f), (2, 18, iv arg), (3, 19, .agg #[iv arg, iv 0, iv 0, iv 0]), (4, 20, (cG f 1 arg 0 0 0 (⟨none, 0, 0⟩) 0 0 false false false 0 false 0))] ha fun a ha => ?_
 refine p_op (o_ret ha (by decide) (iAt (op := (Op.call { callee := (Callee.value (Operand.func 95)), args := #[(Operand.tmp 16), (Operand.tmp 20)], argTypes := #[110, 113] })) (d := some 21) (ty := 114)) rfl Try.func95 (by kernel_rfl) (q_calls hP fuel o (us.map (·.1)) 8 w0 _ _ (qStart 0) (FQ.new f 1 arg) (⟨some ⟨b9, 0, none⟩, 0, 0⟩ : Sl) (⟨none, 0, 0⟩ : Sl) (⟨none, 0, 0⟩ : Sl) 10 ((Sat.nilRow (T := 153) (sz := 2) (Sat.nilRow (T := 153) (sz := 2) (hS.blk0 3 1 rfl))).pickN 9 [3, 0, 1, 4, 5, 2, 6, 7, 8] (by decide) rfl) (qStart_ok hsh hfu) (OkC.new hf0 hf1 ⟨harg.1, harg.2⟩) rfl rfl (Int.le_refl 1) (fun w hS => own_reads hus hS)) fun v13 w a hp14 ha => ?_)
 obtain ⟨q, tr, se, df, hq, rfl, hS⟩ := hp14
 refine p_run [(6, 22, (mG o fuel q.1.spent q.1.shared q.1.made q.1.deep tr se)), (7, 23, (cG q.2.f q.2.depth q.2.r0 q.2.r1 q.2.r2 q.2.r3 df q.2.kind q.2.value q.2.leaving q.2.deferred q.2.panicking q.2.panic q.2.recovered q.2.outer))] ha fun a ha => ?_
 refine p_op (o_storeAgg 7 ha (iAt (op := (Op.store 110 (Operand.tmp 8) (Operand.tmp 22))) (ty := 0)) rfl rfl rfl (by kernel_rfl) hS rfl (Nat.le_of_ble_eq_true rfl) rfl fun w a hS ha => ?_)
 refine p_op (o_storeAgg 6 ha (iAt (op := (Op.store 113 (Operand.tmp 9) (Operand.tmp 23))) (ty := 0)) rfl rfl rfl (by kernel_rfl) hS rfl (Nat.le_of_ble_eq_true rfl) rfl fun w a hS ha => ?_)
 refine p_end ?_
 refine then_n ?_
 refine wp_ret ?_
 refine end_res2 ha (by kernel_rfl) (resC (t := 8) (ty := 110) (i := 7) ha rfl hS rfl (by kernel_rfl)) (resC (t := 9) (ty := 113) (i := 6) ha rfl hS rfl (by kernel_rfl)) ?_
 replace hS : Sat w0 w ((rE tr q.1.trace) :: (rS se q.1.seen) :: Rs) := hS.pickN 9 [0, 1] (by decide) rfl
 exact ⟨q, o, tr, se, df, hq, rfl, hS⟩
theorem code47 : Try.f47.body = some (Code.seq (Code.region 0 (regOf Try.f47 0) false) (Code.seq (Code.region 1 (regOf Try.f47 1) false) (Code.seq (Code.region 2 (regOf Try.f47 2) false) Code.ret))) := by kernel_rfl
set_option maxRecDepth 20000 in
set_option maxHeartbeats 1000000 in
theorem q_run {w0 w : World} {Rs : List Asn} {P : List (List Stp)} (hP : ProgOk P) {pv : Sl} {sbs : List Sl} {f arg fuel : Int} (hS : Sat w0 w Rs) (hf0 : 0 ≤ f) (hf1 : f < P.length) (harg : -32768 ≤ arg ∧ arg ≤ 32767) (hfu : 0 ≤ fuel ∧ fuel ≤ 200) (hPr : Keeps w0 Rs (fun w => RdProg w pv sbs P)) :
  Calls Try.prog 47 #[.agg #[.slice pv.A pv.n pv.c], .int .i64 f, .int .i64 arg, .int .i64 fuel] w (Ret fun r w' => ∃ tr : Sl, r = oG (runS P 0 f arg fuel).k (runS P 0 f arg fuel).v tr (runS P 0 f arg fuel).m.made ∧ Sat w0 w' (rE tr (runS P 0 f arg fuel).m.trace :: Rs)) := by
 refine enter (n := 22) Try.func47 code47 (by kernel_rfl) (Nat.le_of_ble_eq_true rfl) (fun a ha => ?_)
 replace ha : Has 22 [(0, .agg #[.slice pv.A pv.n pv.c]), (1, iv f), (2, iv arg), (3, iv fuel)] a := ha
 refine wp_seq ?_
 refine p_beginL [0, 1] ?_
 refine p_op (o_new (cs := [.slice pv.A pv.n pv.c]) (T := 31) (fun b => .pointer (some ⟨b, 0, none⟩)) ha (by decide) (iAt (op := (Op.box 31 (Operand.tmp 0))) (d := some 4) (ty := 0)) (by kernel_rfl) hS (fun _ => by kernel_rfl) fun b1 w a hb2 hS ha => ?_)
 refine p_op (o_new (cs := [iv 0, iv 0, .slice none 0 0, iv 0]) (T := 54) (fun b => .pointer (some ⟨b, 0, none⟩)) ha (by decide) (iAt (op := (Op.alloc 54)) (d := some 8) (ty := 0)) (by kernel_rfl) hS (fun _ => by kernel_rfl) fun b3 w a hb4 hS ha => ?_)
 refine p_end ?_
 refine then_n ?_
 refine wp_seq ?_
 refine p_beginL [0, 1, 2, 3, 4, 5, 6, 7, 8, 9, 10, 11] ?_
 refine p_val ha (by decide) (v_loadW ha (iAt (op := (Op.load 31 (Operand.tmp 4))) (d := some 12) (ty := 31)) rfl (by kernel_rfl) (fun _ hw => by rw [hw]; exact hS.blk 1 rfl)) (fun a ha => ?_)
 refine p_run [(1, 13, iv f), (2, 14, iv arg), (3, 15, iv fuel)] ha fun a ha => ?_
 refine p_op (o_ret ha (by decide) (iAt (op := (Op.call { callee := (Callee.value (Operand.func 80)), args := #[(Operand.tmp 12), (Operand.tmp 13), (Operand.tmp 14), (Operand.tmp 15)], argTypes := #[31, 3, 3, 3] })) (d := some 16) (ty := 114)) rfl Try.func80 (by kernel_rfl) (q_whole hP hS hf0 hf1 harg hfu (hPr.more [_, _])) fun v5 w a hp6 ha => ?_)
 obtain ⟨q, o, tr, se, df, hq, rfl, hS⟩ := hp6
 refine p_run [(5, 11, .tuple #[(mG o fuel q.1.spent q.1.shared q.1.made q.1.deep tr se), (cG q.2.f q.2.depth q.2.r0 q.2.r1 q.2.r2 q.2.r3 df q.2.kind q.2.value q.2.leaving q.2.deferred q.2.panicking q.2.panic q.2.recovered q.2.outer)]), (6, 17, (mG o fuel q.1.spent q.1.shared q.1.made q.1.deep tr se)), (7, 18, (cG q.2.f q.2.depth q.2.r0 q.2.r1 q.2.r2 q.2.r3 df q.2.kind q.2.value q.2.leaving q.2.deferred q.2.panicking q.2.panic q.2.recovered q.2.outer))] ha fun a ha => ?_
 refine p_op (o_new (cs := (mL (⟨none, 0, 0⟩) 0 false 0 0 0 (⟨none, 0, 0⟩) (⟨none, 0, 0⟩))) (T := 110) (fun b => .pointer (some ⟨b, 0, none⟩)) ha (by decide) (iAt (op := (Op.alloc 110)) (d := some 9) (ty := 0)) (by kernel_rfl) hS (fun _ => by kernel_rfl) fun b7 w a hb8 hS ha => ?_)
 refine p_op (o_new (cs := (cL 0 0 0 0 0 0 (⟨none, 0, 0⟩) 0 0 false false false 0 false 0)) (T := 113) (fun b => .pointer (some ⟨b, 0, none⟩)) ha (by decide) (iAt (op := (Op.alloc 113)) (d := some 10) (ty := 0)) (by kernel_rfl) hS (fun _ => by kernel_rfl) fun b9 w a hb10 hS ha => ?_)
 refine p_op (o_storeAgg 1 ha (iAt (op := (Op.store 110 (Operand.tmp 9) (Operand.tmp 17))) (ty := 0)) rfl rfl rfl (by kernel_rfl) hS rfl (Nat.le_of_ble_eq_true rfl) rfl fun w a hS ha => ?_)
 refine p_op (o_storeAgg 0 ha (iAt (op := (Op.store 113 (Operand.tmp 10) (Operand.tmp 18))) (ty := 0)) rfl rfl rfl (by kernel_rfl) hS rfl (Nat.le_of_ble_eq_true rfl) rfl fun w a hS ha => ?_)
 refine p_end ?_
 refine then_n ?_
 refine wp_seq ?_
 refine p_beginL [0, 1, 2, 3] ?_
 refine p_val ha (by decide) (v_loadW ha (iAt (op := (Op.load 110 (Operand.tmp 9))) (d := some 19) (ty := 110)) rfl (by kernel_rfl) (fun _ hw => by rw [hw]; exact hS.blk 1 rfl)) (fun a ha => ?_)
 refine p_val ha (by decide) (v_loadW ha (iAt (op := (Op.load 113 (Operand.tmp 10))) (d := some 20) (ty := 113)) rfl (by kernel_rfl) (fun _ hw => by rw [hw]; exact hS.blk 0 rfl)) (fun a ha => ?_)
 refine p_op (o_ret ha (by decide) (iAt (op := (Op.call { callee := (Callee.value (Operand.func 81)), args := #[(Operand.tmp 19), (Operand.tmp 20)], argTypes := #[110, 113] })) (d := some 21) (ty := 54)) rfl Try.func81 (by kernel_rfl) (q_told q.1 q.2 hS) fun v11 w a hp12 ha => ?_)
 obtain ⟨rfl, hS⟩ := hp12
 refine p_op (o_storeAgg 4 ha (iAt (op := (Op.store 54 (Operand.tmp 8) (Operand.tmp 21))) (ty := 0)) rfl rfl rfl (by kernel_rfl) hS rfl (Nat.le_of_ble_eq_true rfl) rfl fun w a hS ha => ?_)
 refine p_end ?_
 refine then_n ?_
 refine wp_ret ?_
 refine end_res1 ha (by kernel_rfl) (resC (t := 8) (ty := 54) (i := 4) ha rfl hS rfl (by kernel_rfl)) ?_
 replace hS : Sat w0 w ((rE tr q.1.trace) :: Rs) := hS.pickN 6 [2] (by decide) rfl
 have hE := run_eq hP (shared := 0) (arg := arg) hf0 hf1 hfu
 rw [← hq] at hE
 rw [hE.kind, hE.val, hE.made]
 rw [hE.trace] at hS
 exact ⟨tr, rfl, hS⟩
end SX
end Go.Proofs.Ytdbbafepjgnmeaa
end
section
namespace Go.Proofs.Ytdbbafepjgnmeaa.G
open Go.RowKit Go.Proofs.Ytdbbafepjgnmeaa.SX Go.Proofs.YtdbbafepjgnmeaaW.PrintWords Go.Proofs.YtdbbafepjgnmeaaW.PrintLast Go.Proofs.YtdbbafepjgnmeaaW.PrintMore
set_option linter.unusedVariables false
set_option linter.unusedSimpArgs false
theorem apart_if2 (p : Prop) [Decidable p] (b : Bool) : (if p then some b else some false) = some (decide p && b) := by by_cases h : p <;> simp [h]
theorem q_in {w0 w : World} {Rs : List Asn} (hS : Sat w0 w Rs) (x lo hi : Int) : Calls Try.prog 56 #[.int .i64 x, .int .i64 lo, .int .i64 hi] w (Ret fun r w' => r = .bool (decide (lo ≤ x) && decide (x ≤ hi)) ∧ Sat w0 w' Rs) := by
 refine (spec_l1In.calls x lo hi (decide (lo ≤ x) && decide (x ≤ hi)) w (by unfold spec_l1In.f; by_cases h : lo ≤ x <;> simp [h])).mono ?_
 rintro e w' ⟨rfl, hd⟩
 obtain ⟨q, rfl⟩ := hd.out
 exact ⟨rfl, hS.grows ⟨rfl, rfl, rfl, Nat.le_refl _, fun _ _ => rfl⟩⟩
theorem q_reg {w0 w : World} {Rs : List Asn} (hS : Sat w0 w Rs) (x : Int) : Calls Try.prog 115 #[.int .i64 x] w (Ret fun r w' => r = .bool (regB x) ∧ Sat w0 w' Rs) := by
 refine (spec_l2Reg.calls x (regB x) w (by unfold spec_l2Reg.f spec_l1In.f; simp [regB, apart_if2])).mono ?_
 rintro e w' ⟨rfl, hd⟩
 obtain ⟨q, rfl⟩ := hd.out
 exact ⟨rfl, hS.grows ⟨rfl, rfl, rfl, Nat.le_refl _, fun _ _ => rfl⟩⟩
theorem q_num {w0 w : World} {Rs : List Asn} (hS : Sat w0 w Rs) (x : Int) : Calls Try.prog 70 #[.int .i64 x] w (Ret fun r w' => r = .bool (numB x) ∧ Sat w0 w' Rs) := by
 refine (spec_l2Number.calls x (numB x) w (by unfold spec_l2Number.f spec_l1In.f; simp [numB, apart_if2])).mono ?_
 rintro e w' ⟨rfl, hd⟩
 obtain ⟨q, rfl⟩ := hd.out
 exact ⟨rfl, hS.grows ⟨rfl, rfl, rfl, Nat.le_refl _, fun _ _ => rfl⟩⟩
theorem code79 : Try.f79.body = some (Code.seq (Code.region 0 (regOf Try.f79 0) false) (Code.seq (Code.region 1 (regOf Try.f79 1) false) Code.ret)) := by kernel_rfl
set_option maxRecDepth 20000 in
set_option maxHeartbeats 1000000 in
theorem q_fun {w0 w : World} {Rs : List Asn} {pv : Sl} (hS : Sat w0 w Rs) (x : Int) (hn : pv.n ≤ 2000000) : Calls Try.prog 79 #[.agg #[.slice pv.A pv.n pv.c], .int .i64 x] w (Ret fun r w' => r = .bool (decide ((0 : Int) ≤ x) && decide (x ≤ (pv.n : Int) - 1)) ∧ Sat w0 w' Rs) := by
 refine enter (n := 11) Try.func79 code79 (by kernel_rfl) (Nat.le_of_ble_eq_true rfl) (fun a ha => ?_)
 replace ha : Has 11 [(0, .agg #[.slice pv.A pv.n pv.c]), (1, iv x)] a := ha
 refine wp_seq ?_
 refine p_beginL [0, 1] ?_
 refine p_op (o_new (cs := [.slice pv.A pv.n pv.c]) (T := 31) (fun b => .pointer (some ⟨b, 0, none⟩)) ha (by decide) (iAt (op := (Op.box 31 (Operand.tmp 0))) (d := some 2) (ty := 0)) (by kernel_rfl) hS (fun _ => by kernel_rfl) fun b1 w a hb2 hS ha => ?_)
 refine p_run [(1, 4, .bool false)] ha fun a ha => ?_
 refine p_end ?_
 refine then_n ?_
 refine wp_seq ?_
 refine p_beginL [0, 1, 2, 3, 4, 5, 6] ?_
 refine p_run [(0, 5, iv x), (1, 6, ptr b1 0)] ha fun a ha => ?_
 refine p_ld (d := 7) (b := b1) (j := 0) ha (hS.blk 0 rfl) rfl fun a ha => ?_
 refine p_run [(3, 8, iv (pv.n : Int))] ha fun a ha => ?_
 refine p_val (v := iv ((pv.n : Int) - 1)) ha (by decide) ((v_pure (v := .int .i64 (IntKind.i64.wrap ((pv.n : Int) - 1))) ha (iAt (op := (Op.binOp BinOp.sub 3 (Operand.tmp 8) (Operand.const (Value.int IntKind.i64 1)) 3)) (d := some 9) (ty := 3)) (by kernel_rfl) (fun _ => by kernel_rfl)).as (by rw [wrap_i64 (by omega) (by omega)])) (fun a ha => ?_)
 refine p_op (o_ret ha (by decide) (iAt (op := (Op.call { callee := (Callee.value (Operand.func 56)), args := #[(Operand.tmp 5), (Operand.const (Value.int IntKind.i64 0)), (Operand.tmp 9)], argTypes := #[3, 3, 3] })) (d := some 10) (ty := 4)) rfl Try.func56 (by kernel_rfl) (q_in hS _ _ _) fun v3 w a hp4 ha => ?_)
 obtain ⟨rfl, hS⟩ := hp4
 refine p_run [(6, 4, .bool (decide ((0 : Int) ≤ x) && decide (x ≤ ((pv.n : Int) - 1))))] ha fun a ha => ?_
 refine p_end ?_
 refine then_n ?_
 refine wp_ret ?_
 refine end_res1 ha (by kernel_rfl) (resT (t := 4) ha rfl) ?_
 exact ⟨rfl, Sat.rest [_] hS⟩
def okB (n : Nat) (b : List Stp) : Bool := decide (b.length ≤ 8) && b.all fun s => stepB (n : Int) s.k s.a s.b
def progQ (P : List (List Stp)) : Bool := (decide ((1 : Int) ≤ (P.length : Int)) && decide ((P.length : Int) ≤ 6)) && P.all (okB P.length)
theorem progQ_len {P : List (List Stp)} (h : (decide ((1 : Int) ≤ (P.length : Int)) && decide ((P.length : Int) ≤ 6)) = false) : progQ P = false := by unfold progQ; rw [h]; rfl
theorem progQ_no {P : List (List Stp)} {b : List Stp} (hb : b ∈ P) (h : okB P.length b = false) : progQ P = false := by
 refine Bool.eq_false_iff.2 fun h2 => ?_
 have h3 := List.all_eq_true.1 (Bool.and_eq_true_iff.1 h2).2 b hb
 rw [h] at h3
 cases h3
theorem progQ_yes {P : List (List Stp)} (h : (decide ((1 : Int) ≤ (P.length : Int)) && decide ((P.length : Int) ≤ 6)) = true) (h2 : ∀ b ∈ P, okB P.length b = true) : progQ P = true := by unfold progQ; rw [h, Bool.true_and]; exact List.all_eq_true.2 h2
theorem okB_len {n : Nat} {b : List Stp} (h : 8 < b.length) : okB n b = false := by unfold okB; rw [decide_eq_false (by omega)]; rfl
theorem okB_step {n : Nat} {b : List Stp} {z : Stp} (hz : z ∈ b) (h : stepB (n : Int) z.k z.a z.b = false) : okB n b = false := by
 refine Bool.eq_false_iff.2 fun h2 => ?_
 have h3 := List.all_eq_true.1 (Bool.and_eq_true_iff.1 h2).2 z hz
 rw [h] at h3
 cases h3
theorem okB_yes {n : Nat} {b : List Stp} (h : b.length ≤ 8) (h2 : ∀ s ∈ b, stepB (n : Int) s.k s.a s.b = true) : okB n b = true := by unfold okB; rw [decide_eq_true h, Bool.true_and]; exact List.all_eq_true.2 h2
theorem take_all {α : Type} {l : List α} {i : Nat} {x : α} {p : α → Prop} (h : ∀ y ∈ l.take i, p y) (hx : l[i]? = some x) (hp : p x) : ∀ y ∈ l.take (i + 1), p y := by
 intro y hy
 rw [List.take_add_one, hx] at hy
 rcases List.mem_append.1 hy with hy | hy
 · exact h y hy
 · rw [List.mem_singleton.1 hy]; exact hp
theorem progQ_PL (l : List (List GS)) : progQ (PL l) = programB l := by
  unfold progQ programB
  rw [PL_length]
  congr 1
  · congr 1 <;> exact decide_eq_decide.2 (by omega)
  · unfold PL
    rw [List.all_map]
    refine congrArg (List.all l) (funext fun b => ?_)
    simp only [Function.comp, okB, bodyB, List.length_map, List.all_map]
    rfl
theorem code99 : Try.f99.body = some (Code.seq (Code.region 0 (regOf Try.f99 0) false) (Code.seq (Code.seq (Code.region 1 (regOf Try.f99 1) false) (Code.block 0 (Code.seq (Code.region 2 (regOf Try.f99 2) false) (Code.cond (Operand.tmp 7) (Code.seq (Code.region 3 (regOf Try.f99 3) false) Code.ret) (Code.seq (Code.region 4 (regOf Try.f99 4) false) (Code.cond (Operand.tmp 17) (Code.seq (Code.region 5 (regOf Try.f99 5) false) Code.ret) (Code.seq (Code.seq (Code.region 6 (regOf Try.f99 6) false) (Code.cond (Operand.tmp 27) Code.skip (Code.region 7 (regOf Try.f99 7) false))) (Code.cond (Operand.tmp 27) (Code.seq (Code.region 8 (regOf Try.f99 8) false) Code.ret) (Code.seq (Code.seq (Code.region 9 (regOf Try.f99 9) false) (Code.cond (Operand.tmp 39) Code.skip (Code.seq (Code.region 10 (regOf Try.f99 10) false) (Code.cond (Operand.tmp 39) Code.skip (Code.seq (Code.region 11 (regOf Try.f99 11) false) (Code.cond (Operand.tmp 39) Code.skip (Code.seq (Code.region 12 (regOf Try.f99 12) false) (Code.cond (Operand.tmp 39) Code.skip (Code.seq (Code.region 13 (regOf Try.f99 13) false) (Code.cond (Operand.tmp 39) Code.skip (Code.seq (Code.region 14 (regOf Try.f99 14) false) (Code.cond (Operand.tmp 39) Code.skip (Code.region 15 (regOf Try.f99 15) false))))))))))))) (Code.cond (Operand.tmp 39) (Code.seq (Code.region 16 (regOf Try.f99 16) false) Code.ret) (Code.seq (Code.region 17 (regOf Try.f99 17) false) (Code.cond (Operand.tmp 55) (Code.seq (Code.region 18 (regOf Try.f99 18) false) Code.ret) (Code.seq (Code.region 19 (regOf Try.f99 19) false) (Code.cond (Operand.tmp 65) (Code.seq (Code.region 20 (regOf Try.f99 20) false) Code.ret) Code.skip)))))))))))))) (Code.seq (Code.region 21 (regOf Try.f99 21) false) Code.ret))) := by kernel_rfl
set_option maxRecDepth 20000 in
set_option maxHeartbeats 1000000 in
theorem q_step {w0 w : World} {Rs : List Asn} {pv : Sl} {k xa xb : Int} (hS : Sat w0 w Rs) (hn : pv.n ≤ 2000000) :
  Calls Try.prog 99 #[.agg #[.slice pv.A pv.n pv.c], .agg #[.int .i64 k, .int .i64 xa, .int .i64 xb]] w (Ret fun r w' => r = .bool (stepB (pv.n : Int) k xa xb) ∧ Sat w0 w' Rs) := by
 refine enter (n := 75) Try.func99 code99 (by kernel_rfl) (Nat.le_of_ble_eq_true rfl) (fun a ha => ?_)
 replace ha : Has 75 [(0, .agg #[.slice pv.A pv.n pv.c]), (1, .agg #[iv k, iv xa, iv xb])] a := ha
 refine wp_seq ?_
 refine p_beginL [0, 1, 2] ?_
 refine p_op (o_new (cs := [.slice pv.A pv.n pv.c]) (T := 31) (fun b => .pointer (some ⟨b, 0, none⟩)) ha (by decide) (iAt (op := (Op.box 31 (Operand.tmp 0))) (d := some 2) (ty := 0)) (by kernel_rfl) hS (fun _ => by kernel_rfl) fun b1 w a hb2 hS ha => ?_)
 refine p_op (o_new (cs := [iv k, iv xa, iv xb]) (T := 144) (fun b => .pointer (some ⟨b, 0, none⟩)) ha (by decide) (iAt (op := (Op.box 144 (Operand.tmp 1))) (d := some 3) (ty := 0)) (by kernel_rfl) hS (fun _ => by kernel_rfl) fun b3 w a hb4 hS ha => ?_)
 refine p_run [(2, 4, .bool false)] ha fun a ha => ?_
 refine p_end ?_
 refine then_n ?_
 refine wp_seq ?_
 refine wp_seq ?_
 refine p_beginL [0, 1] ?_
 refine p_run [(0, 5, ptr b3 0)] ha fun a ha => ?_
 refine p_ld (d := 6) (b := b3) (j := 0) ha (hS.blk 0 rfl) rfl fun a ha => ?_
 refine p_end ?_
 refine then_n ?_
 refine wp_block ?_
 refine wp_seq ?_
 refine p_beginL [0, 1] ?_
 refine p_run [(0, 8, .bool (decide (k = 1))), (1, 7, .bool (decide (k = 1)))] ha fun a ha => ?_
 refine p_end ?_
 refine then_n ?_
 by_cases c5 : k = 1
 ·
  refine c_true ha rfl (decide_eq_true c5) ?_
  refine wp_seq ?_
  refine p_beginL [0, 1, 2, 3, 4, 5, 6, 7, 8] ?_
  refine p_run [(0, 9, ptr b3 1)] ha fun a ha => ?_
  refine p_ld (d := 10) (b := b3) (j := 1) ha (hS.blk 0 rfl) rfl fun a ha => ?_
  refine p_op (o_ret ha (by decide) (iAt (op := (Op.call { callee := (Callee.value (Operand.func 115)), args := #[(Operand.tmp 10)], argTypes := #[3] })) (d := some 11) (ty := 4)) rfl Try.func115 (by kernel_rfl) (q_reg hS _) fun v6 w a hp7 ha => ?_)
  obtain ⟨rfl, hS⟩ := hp7
  refine p_run [(3, 12, .bool (regB xa))] ha fun a ha => ?_
  rcases Bool.eq_false_or_eq_true (regB xa) with c8 | c8
  ·
   replace ha := ha.turn 11 (.bool true) rfl (congrArg Value.bool c8)
   replace ha := ha.turn 12 (.bool true) rfl (congrArg Value.bool c8)
   refine p_run [(4, 13, ptr b3 2)] ha fun a ha => ?_
   refine p_ld (d := 14) (b := b3) (j := 2) ha (hS.blk 0 rfl) rfl fun a ha => ?_
   refine p_op (o_ret ha (by decide) (AtG.here (gd := 12) ⟨(by kernel_rfl : ((regOf Try.f99 3)[6]?).map spec = some ((Op.call { callee := (Callee.value (Operand.func 70)), args := #[(Operand.tmp 14)], argTypes := #[3] }), some 15, 4, some (3, true))), by kernel_rfl⟩ ha rfl) rfl Try.func70 (by kernel_rfl) (q_num hS _) fun v9 w a hp10 ha => ?_)
   obtain ⟨rfl, hS⟩ := hp10
   refine p_run [(7, 16, .bool (numB xb)), (8, 4, .bool (numB xb))] ha fun a ha => ?_
   refine p_end ?_
   replace ha := ha.as [(4, .bool (numB xb))] rfl
   refine then_n ?_
   refine wp_ret ?_
   refine in_r ?_
   refine then_r ?_
   refine end_res1 ha (by kernel_rfl) (resT (t := 4) ha rfl) ?_
   have hE : stepB (pv.n : Int) k xa xb = (numB xb) := by first | (simp [stepB, c5, c8]; done) | (simp only [stepB, show (decide (1 ≤ k) && decide (k ≤ 13)) = false by (simp; omega), Bool.false_and])
   rw [hE]
   exact ⟨rfl, Sat.rest [_, _] hS⟩
  ·
   replace ha := ha.turn 11 (.bool false) rfl (congrArg Value.bool c8)
   replace ha := ha.turn 12 (.bool false) rfl (congrArg Value.bool c8)
   refine p_run [(4, 13, undef), (5, 14, undef), (6, 15, undef), (7, 16, .bool false), (8, 4, .bool false)] ha fun a ha => ?_
   refine p_end ?_
   replace ha := ha.as [(4, .bool false)] rfl
   refine then_n ?_
   refine wp_ret ?_
   refine in_r ?_
   refine then_r ?_
   refine end_res1 ha (by kernel_rfl) (resT (t := 4) ha rfl) ?_
   have hE : stepB (pv.n : Int) k xa xb = false := by first | (simp [stepB, c5, c8]; done) | (simp only [stepB, show (decide (1 ≤ k) && decide (k ≤ 13)) = false by (simp; omega), Bool.false_and])
   rw [hE]
   exact ⟨rfl, Sat.rest [_, _] hS⟩
 ·
  refine c_false ha rfl (decide_eq_false c5) ?_
  refine wp_seq ?_
  refine p_beginL [0, 1] ?_
  refine p_run [(0, 18, .bool (decide (k = 2))), (1, 17, .bool (decide (k = 2)))] ha fun a ha => ?_
  refine p_end ?_
  refine then_n ?_
  by_cases c11 : k = 2
  ·
   refine c_true ha rfl (decide_eq_true c11) ?_
   refine wp_seq ?_
   refine p_beginL [0, 1, 2, 3, 4, 5, 6, 7, 8] ?_
   refine p_run [(0, 19, ptr b3 1)] ha fun a ha => ?_
   refine p_ld (d := 20) (b := b3) (j := 1) ha (hS.blk 0 rfl) rfl fun a ha => ?_
   refine p_op (o_ret ha (by decide) (iAt (op := (Op.call { callee := (Callee.value (Operand.func 115)), args := #[(Operand.tmp 20)], argTypes := #[3] })) (d := some 21) (ty := 4)) rfl Try.func115 (by kernel_rfl) (q_reg hS _) fun v12 w a hp13 ha => ?_)
   obtain ⟨rfl, hS⟩ := hp13
   refine p_run [(3, 22, .bool (regB xa))] ha fun a ha => ?_
   rcases Bool.eq_false_or_eq_true (regB xa) with c14 | c14
   ·
    replace ha := ha.turn 21 (.bool true) rfl (congrArg Value.bool c14)
    replace ha := ha.turn 22 (.bool true) rfl (congrArg Value.bool c14)
    refine p_run [(4, 23, ptr b3 2)] ha fun a ha => ?_
    refine p_ld (d := 24) (b := b3) (j := 2) ha (hS.blk 0 rfl) rfl fun a ha => ?_
    refine p_op (o_ret ha (by decide) (AtG.here (gd := 22) ⟨(by kernel_rfl : ((regOf Try.f99 5)[6]?).map spec = some ((Op.call { callee := (Callee.value (Operand.func 115)), args := #[(Operand.tmp 24)], argTypes := #[3] }), some 25, 4, some (3, true))), by kernel_rfl⟩ ha rfl) rfl Try.func115 (by kernel_rfl) (q_reg hS _) fun v15 w a hp16 ha => ?_)
    obtain ⟨rfl, hS⟩ := hp16
    refine p_run [(7, 26, .bool (regB xb)), (8, 4, .bool (regB xb))] ha fun a ha => ?_
    refine p_end ?_
    replace ha := ha.as [(4, .bool (regB xb))] rfl
    refine then_n ?_
    refine wp_ret ?_
    refine in_r ?_
    refine then_r ?_
    refine end_res1 ha (by kernel_rfl) (resT (t := 4) ha rfl) ?_
    have hE : stepB (pv.n : Int) k xa xb = (regB xb) := by first | (simp [stepB, c5, c11, c14]; done) | (simp only [stepB, show (decide (1 ≤ k) && decide (k ≤ 13)) = false by (simp; omega), Bool.false_and])
    rw [hE]
    exact ⟨rfl, Sat.rest [_, _] hS⟩
   ·
    replace ha := ha.turn 21 (.bool false) rfl (congrArg Value.bool c14)
    replace ha := ha.turn 22 (.bool false) rfl (congrArg Value.bool c14)
    refine p_run [(4, 23, undef), (5, 24, undef), (6, 25, undef), (7, 26, .bool false), (8, 4, .bool false)] ha fun a ha => ?_
    refine p_end ?_
    replace ha := ha.as [(4, .bool false)] rfl
    refine then_n ?_
    refine wp_ret ?_
    refine in_r ?_
    refine then_r ?_
    refine end_res1 ha (by kernel_rfl) (resT (t := 4) ha rfl) ?_
    have hE : stepB (pv.n : Int) k xa xb = false := by first | (simp [stepB, c5, c11, c14]; done) | (simp only [stepB, show (decide (1 ≤ k) && decide (k ≤ 13)) = false by (simp; omega), Bool.false_and])
    rw [hE]
    exact ⟨rfl, Sat.rest [_, _] hS⟩
  ·
   refine c_false ha rfl (decide_eq_false c11) ?_
   refine wp_seq ?_
   refine wp_seq ?_
   refine p_beginL [0, 1] ?_
   refine p_run [(0, 28, .bool (decide (k = 4))), (1, 27, .bool (decide (k = 4)))] ha fun a ha => ?_
   refine p_end ?_
   refine then_n ?_
   refine then_cut (J := fun a_ w_ => Has 75 [(2, ptr b1 0), (3, ptr b3 0), (4, .bool false), (6, iv k), (27, .bool (decide (k = 4 ∨ k = 5)))] a_ ∧ Sat w0 w_ ((SX.blk b3 [iv k, iv xa, iv xb] 144) :: (SX.blk b1 [.slice pv.A pv.n pv.c] 31) :: Rs)) ?_ ?_
   ·
    by_cases c17 : k = 4
    ·
     refine c_true ha rfl (decide_eq_true c17) ?_
     refine wp_skip ?_
     have e18 : (decide (k = 4 ∨ k = 5)) = (decide (k = 4)) := by simp [c5, c11, c17]
     refine then_n ⟨?_, ?_⟩
     · first | (rw [e18]; exact ha.keeps [2, 3, 4, 6, 27] _ rfl) | exact ha.keeps [2, 3, 4, 6, 27] _ rfl
     · first | (rw [e18]; exact hS) | exact hS
    ·
     refine c_false ha rfl (decide_eq_false c17) ?_
     refine p_beginL [0, 1] ?_
     refine p_run [(0, 29, .bool (decide (k = 5))), (1, 27, .bool (decide (k = 5)))] ha fun a ha => ?_
     refine p_end ?_
     have e19 : (decide (k = 4 ∨ k = 5)) = (decide (k = 5)) := by simp [c5, c11, c17]
     refine then_n ⟨?_, ?_⟩
     · first | (rw [e19]; exact ha.keeps [2, 3, 4, 6, 27] _ rfl) | exact ha.keeps [2, 3, 4, 6, 27] _ rfl
     · first | (rw [e19]; exact hS) | exact hS
   ·
    rintro a w ⟨ha, hS⟩
    by_cases c20 : k = 4 ∨ k = 5
    ·
     refine c_true ha rfl (decide_eq_true c20) ?_
     refine wp_seq ?_
     refine p_beginL [0, 1, 2, 3, 4, 5, 6, 7, 8, 9] ?_
     refine p_val ha (by decide) (v_loadW ha (iAt (op := (Op.load 31 (Operand.tmp 2))) (d := some 30) (ty := 31)) rfl (by kernel_rfl) (fun _ hw => by rw [hw]; exact hS.blk 1 rfl)) (fun a ha => ?_)
     refine p_run [(1, 31, ptr b3 1)] ha fun a ha => ?_
     refine p_ld (d := 32) (b := b3) (j := 1) ha (hS.blk 0 rfl) rfl fun a ha => ?_
     refine p_op (o_ret ha (by decide) (iAt (op := (Op.call { callee := (Callee.value (Operand.func 79)), args := #[(Operand.tmp 30), (Operand.tmp 32)], argTypes := #[31, 3] })) (d := some 33) (ty := 4)) rfl Try.func79 (by kernel_rfl) (q_fun hS _ (by omega)) fun v21 w a hp22 ha => ?_)
     obtain ⟨rfl, hS⟩ := hp22
     refine p_run [(4, 34, .bool (decide ((0 : Int) ≤ xa) && decide (xa ≤ (pv.n : Int) - 1)))] ha fun a ha => ?_
     rcases Bool.eq_false_or_eq_true (decide ((0 : Int) ≤ xa) && decide (xa ≤ (pv.n : Int) - 1)) with c23 | c23
     ·
      replace ha := ha.turn 33 (.bool true) rfl (congrArg Value.bool c23)
      replace ha := ha.turn 34 (.bool true) rfl (congrArg Value.bool c23)
      refine p_run [(5, 35, ptr b3 2)] ha fun a ha => ?_
      refine p_ld (d := 36) (b := b3) (j := 2) ha (hS.blk 0 rfl) rfl fun a ha => ?_
      refine p_op (o_ret ha (by decide) (AtG.here (gd := 34) ⟨(by kernel_rfl : ((regOf Try.f99 8)[7]?).map spec = some ((Op.call { callee := (Callee.value (Operand.func 115)), args := #[(Operand.tmp 36)], argTypes := #[3] }), some 37, 4, some (4, true))), by kernel_rfl⟩ ha rfl) rfl Try.func115 (by kernel_rfl) (q_reg hS _) fun v24 w a hp25 ha => ?_)
      obtain ⟨rfl, hS⟩ := hp25
      refine p_run [(8, 38, .bool (regB xb)), (9, 4, .bool (regB xb))] ha fun a ha => ?_
      refine p_end ?_
      replace ha := ha.as [(4, .bool (regB xb))] rfl
      refine then_n ?_
      refine wp_ret ?_
      refine in_r ?_
      refine then_r ?_
      refine end_res1 ha (by kernel_rfl) (resT (t := 4) ha rfl) ?_
      have hE : stepB (pv.n : Int) k xa xb = (regB xb) := by rcases c20 with h | h <;> simp [stepB, h, c23]
      rw [hE]
      exact ⟨rfl, Sat.rest [_, _] hS⟩
     ·
      replace ha := ha.turn 33 (.bool false) rfl (congrArg Value.bool c23)
      replace ha := ha.turn 34 (.bool false) rfl (congrArg Value.bool c23)
      refine p_run [(5, 35, undef), (6, 36, undef), (7, 37, undef), (8, 38, .bool false), (9, 4, .bool false)] ha fun a ha => ?_
      refine p_end ?_
      replace ha := ha.as [(4, .bool false)] rfl
      refine then_n ?_
      refine wp_ret ?_
      refine in_r ?_
      refine then_r ?_
      refine end_res1 ha (by kernel_rfl) (resT (t := 4) ha rfl) ?_
      have hE : stepB (pv.n : Int) k xa xb = false := by rcases c20 with h | h <;> simp [stepB, h, c23]
      rw [hE]
      exact ⟨rfl, Sat.rest [_, _] hS⟩
    ·
     refine c_false ha rfl (decide_eq_false c20) ?_
     refine wp_seq ?_
     refine wp_seq ?_
     refine p_beginL [0, 1] ?_
     refine p_run [(0, 40, .bool (decide (k = 3))), (1, 39, .bool (decide (k = 3)))] ha fun a ha => ?_
     refine p_end ?_
     refine then_n ?_
     refine then_cut (J := fun a_ w_ => Has 75 [(3, ptr b3 0), (4, .bool false), (6, iv k), (39, .bool (decide (k = 3 ∨ k = 6 ∨ k = 7 ∨ k = 8 ∨ k = 9 ∨ k = 12 ∨ k = 13)))] a_ ∧ Sat w0 w_ ((SX.blk b3 [iv k, iv xa, iv xb] 144) :: (SX.blk b1 [.slice pv.A pv.n pv.c] 31) :: Rs)) ?_ ?_
     ·
      by_cases c26 : k = 3
      ·
       refine c_true ha rfl (decide_eq_true c26) ?_
       refine wp_skip ?_
       have e27 : (decide (k = 3 ∨ k = 6 ∨ k = 7 ∨ k = 8 ∨ k = 9 ∨ k = 12 ∨ k = 13)) = (decide (k = 3)) := by simp [c5, c11, c20, c26]
       refine then_n ⟨?_, ?_⟩
       · first | (rw [e27]; exact ha.keeps [3, 4, 6, 39] _ rfl) | exact ha.keeps [3, 4, 6, 39] _ rfl
       · first | (rw [e27]; exact hS) | exact hS
      ·
       refine c_false ha rfl (decide_eq_false c26) ?_
       refine wp_seq ?_
       refine p_beginL [0, 1] ?_
       refine p_run [(0, 41, .bool (decide (k = 6))), (1, 39, .bool (decide (k = 6)))] ha fun a ha => ?_
       refine p_end ?_
       refine then_n ?_
       by_cases c28 : k = 6
       ·
        refine c_true ha rfl (decide_eq_true c28) ?_
        refine wp_skip ?_
        have e29 : (decide (k = 3 ∨ k = 6 ∨ k = 7 ∨ k = 8 ∨ k = 9 ∨ k = 12 ∨ k = 13)) = (decide (k = 6)) := by simp [c5, c11, c20, c26, c28]
        refine then_n ⟨?_, ?_⟩
        · first | (rw [e29]; exact ha.keeps [3, 4, 6, 39] _ rfl) | exact ha.keeps [3, 4, 6, 39] _ rfl
        · first | (rw [e29]; exact hS) | exact hS
       ·
        refine c_false ha rfl (decide_eq_false c28) ?_
        refine wp_seq ?_
        refine p_beginL [0, 1] ?_
        refine p_run [(0, 42, .bool (decide (k = 7))), (1, 39, .bool (decide (k = 7)))] ha fun a ha => ?_
        refine p_end ?_
        refine then_n ?_
        by_cases c30 : k = 7
        ·
         refine c_true ha rfl (decide_eq_true c30) ?_
         refine wp_skip ?_
         have e31 : (decide (k = 3 ∨ k = 6 ∨ k = 7 ∨ k = 8 ∨ k = 9 ∨ k = 12 ∨ k = 13)) = (decide (k = 7)) := by simp [c5, c11, c20, c26, c28, c30]
         refine then_n ⟨?_, ?_⟩
         · first | (rw [e31]; exact ha.keeps [3, 4, 6, 39] _ rfl) | exact ha.keeps [3, 4, 6, 39] _ rfl
         · first | (rw [e31]; exact hS) | exact hS
        ·
         refine c_false ha rfl (decide_eq_false c30) ?_
         refine wp_seq ?_
         refine p_beginL [0, 1] ?_
         refine p_run [(0, 43, .bool (decide (k = 8))), (1, 39, .bool (decide (k = 8)))] ha fun a ha => ?_
         refine p_end ?_
         replace ha := ha.as [(3, ptr b3 0), (4, .bool false), (6, iv k), (39, .bool (decide (k = 8)))] rfl
         refine then_n ?_
         by_cases c32 : k = 8
         ·
          refine c_true ha rfl (decide_eq_true c32) ?_
          refine wp_skip ?_
          have e33 : (decide (k = 3 ∨ k = 6 ∨ k = 7 ∨ k = 8 ∨ k = 9 ∨ k = 12 ∨ k = 13)) = (decide (k = 8)) := by simp [c5, c11, c20, c26, c28, c30, c32]
          refine then_n ⟨?_, ?_⟩
          · first | (rw [e33]; exact ha.keeps [3, 4, 6, 39] _ rfl) | exact ha.keeps [3, 4, 6, 39] _ rfl
          · first | (rw [e33]; exact hS) | exact hS
         ·
          refine c_false ha rfl (decide_eq_false c32) ?_
          refine wp_seq ?_
          refine p_beginL [0, 1] ?_
          refine p_run [(0, 44, .bool (decide (k = 9))), (1, 39, .bool (decide (k = 9)))] ha fun a ha => ?_
          refine p_end ?_
          refine then_n ?_
          by_cases c34 : k = 9
          ·
           refine c_true ha rfl (decide_eq_true c34) ?_
           refine wp_skip ?_
           have e35 : (decide (k = 3 ∨ k = 6 ∨ k = 7 ∨ k = 8 ∨ k = 9 ∨ k = 12 ∨ k = 13)) = (decide (k = 9)) := by simp [c5, c11, c20, c26, c28, c30, c32, c34]
           refine then_n ⟨?_, ?_⟩
           · first | (rw [e35]; exact ha.keeps [3, 4, 6, 39] _ rfl) | exact ha.keeps [3, 4, 6, 39] _ rfl
           · first | (rw [e35]; exact hS) | exact hS
          ·
           refine c_false ha rfl (decide_eq_false c34) ?_
           refine wp_seq ?_
           refine p_beginL [0, 1] ?_
           refine p_run [(0, 45, .bool (decide (k = 12))), (1, 39, .bool (decide (k = 12)))] ha fun a ha => ?_
           refine p_end ?_
           refine then_n ?_
           by_cases c36 : k = 12
           ·
            refine c_true ha rfl (decide_eq_true c36) ?_
            refine wp_skip ?_
            have e37 : (decide (k = 3 ∨ k = 6 ∨ k = 7 ∨ k = 8 ∨ k = 9 ∨ k = 12 ∨ k = 13)) = (decide (k = 12)) := by simp [c5, c11, c20, c26, c28, c30, c32, c34, c36]
            refine then_n ⟨?_, ?_⟩
            · first | (rw [e37]; exact ha.keeps [3, 4, 6, 39] _ rfl) | exact ha.keeps [3, 4, 6, 39] _ rfl
            · first | (rw [e37]; exact hS) | exact hS
           ·
            refine c_false ha rfl (decide_eq_false c36) ?_
            refine p_beginL [0, 1] ?_
            refine p_run [(0, 46, .bool (decide (k = 13))), (1, 39, .bool (decide (k = 13)))] ha fun a ha => ?_
            refine p_end ?_
            have e38 : (decide (k = 3 ∨ k = 6 ∨ k = 7 ∨ k = 8 ∨ k = 9 ∨ k = 12 ∨ k = 13)) = (decide (k = 13)) := by simp [c5, c11, c20, c26, c28, c30, c32, c34, c36]
            refine then_n ⟨?_, ?_⟩
            · first | (rw [e38]; exact ha.keeps [3, 4, 6, 39] _ rfl) | exact ha.keeps [3, 4, 6, 39] _ rfl
            · first | (rw [e38]; exact hS) | exact hS
     ·
      rintro a w ⟨ha, hS⟩
      by_cases c39 : k = 3 ∨ k = 6 ∨ k = 7 ∨ k = 8 ∨ k = 9 ∨ k = 12 ∨ k = 13
      ·
       refine c_true ha rfl (decide_eq_true c39) ?_
       refine wp_seq ?_
       refine p_beginL [0, 1, 2, 3, 4, 5, 6, 7, 8] ?_
       refine p_run [(0, 47, ptr b3 1)] ha fun a ha => ?_
       refine p_ld (d := 48) (b := b3) (j := 1) ha (hS.blk 0 rfl) rfl fun a ha => ?_
       refine p_op (o_ret ha (by decide) (iAt (op := (Op.call { callee := (Callee.value (Operand.func 115)), args := #[(Operand.tmp 48)], argTypes := #[3] })) (d := some 49) (ty := 4)) rfl Try.func115 (by kernel_rfl) (q_reg hS _) fun v40 w a hp41 ha => ?_)
       obtain ⟨rfl, hS⟩ := hp41
       refine p_run [(3, 50, .bool (regB xa))] ha fun a ha => ?_
       rcases Bool.eq_false_or_eq_true (regB xa) with c42 | c42
       ·
        replace ha := ha.turn 49 (.bool true) rfl (congrArg Value.bool c42)
        replace ha := ha.turn 50 (.bool true) rfl (congrArg Value.bool c42)
        refine p_run [(4, 51, ptr b3 2)] ha fun a ha => ?_
        refine p_ld (d := 52) (b := b3) (j := 2) ha (hS.blk 0 rfl) rfl fun a ha => ?_
        refine p_run [(6, 53, .bool (decide (xb = 0))), (7, 54, .bool (decide (xb = 0))), (8, 4, .bool (decide (xb = 0)))] ha fun a ha => ?_
        refine p_end ?_
        replace ha := ha.as [(4, .bool (decide (xb = 0)))] rfl
        refine then_n ?_
        refine wp_ret ?_
        refine in_r ?_
        refine then_r ?_
        refine end_res1 ha (by kernel_rfl) (resT (t := 4) ha rfl) ?_
        have hE : stepB (pv.n : Int) k xa xb = decide (xb = 0) := by rcases c39 with h | h | h | h | h | h | h <;> simp [stepB, h, c42]
        rw [hE]
        exact ⟨rfl, Sat.rest [_, _] hS⟩
       ·
        replace ha := ha.turn 49 (.bool false) rfl (congrArg Value.bool c42)
        replace ha := ha.turn 50 (.bool false) rfl (congrArg Value.bool c42)
        refine p_run [(4, 51, undef), (5, 52, undef), (6, 53, undef), (7, 54, .bool false), (8, 4, .bool false)] ha fun a ha => ?_
        refine p_end ?_
        replace ha := ha.as [(4, .bool false)] rfl
        refine then_n ?_
        refine wp_ret ?_
        refine in_r ?_
        refine then_r ?_
        refine end_res1 ha (by kernel_rfl) (resT (t := 4) ha rfl) ?_
        have hE : stepB (pv.n : Int) k xa xb = false := by rcases c39 with h | h | h | h | h | h | h <;> simp [stepB, h, c42]
        rw [hE]
        exact ⟨rfl, Sat.rest [_, _] hS⟩
      ·
       refine c_false ha rfl (decide_eq_false c39) ?_
       refine wp_seq ?_
       refine p_beginL [0, 1] ?_
       refine p_run [(0, 56, .bool (decide (k = 10))), (1, 55, .bool (decide (k = 10)))] ha fun a ha => ?_
       refine p_end ?_
       refine then_n ?_
       by_cases c43 : k = 10
       ·
        refine c_true ha rfl (decide_eq_true c43) ?_
        refine wp_seq ?_
        refine p_beginL [0, 1, 2, 3, 4, 5, 6, 7, 8] ?_
        refine p_run [(0, 57, ptr b3 1)] ha fun a ha => ?_
        refine p_ld (d := 58) (b := b3) (j := 1) ha (hS.blk 0 rfl) rfl fun a ha => ?_
        refine p_run [(2, 59, .bool (decide (xa = 0))), (3, 60, .bool (decide (xa = 0)))] ha fun a ha => ?_
        by_cases c44 : xa = 0
        ·
         replace ha := ha.turn 59 (.bool true) rfl (congrArg Value.bool (decide_eq_true c44))
         replace ha := ha.turn 60 (.bool true) rfl (congrArg Value.bool (decide_eq_true c44))
         refine p_run [(4, 61, ptr b3 2)] ha fun a ha => ?_
         refine p_ld (d := 62) (b := b3) (j := 2) ha (hS.blk 0 rfl) rfl fun a ha => ?_
         refine p_run [(6, 63, .bool (decide (xb = 0))), (7, 64, .bool (decide (xb = 0))), (8, 4, .bool (decide (xb = 0)))] ha fun a ha => ?_
         refine p_end ?_
         replace ha := ha.as [(4, .bool (decide (xb = 0)))] rfl
         refine then_n ?_
         refine wp_ret ?_
         refine in_r ?_
         refine then_r ?_
         refine end_res1 ha (by kernel_rfl) (resT (t := 4) ha rfl) ?_
         have hE : stepB (pv.n : Int) k xa xb = decide (xb = 0) := by first | (simp [stepB, c5, c11, c20, c39, c43, c44]; done) | (simp only [stepB, show (decide (1 ≤ k) && decide (k ≤ 13)) = false by (simp; omega), Bool.false_and])
         rw [hE]
         exact ⟨rfl, Sat.rest [_, _] hS⟩
        ·
         replace ha := ha.turn 59 (.bool false) rfl (congrArg Value.bool (decide_eq_false c44))
         replace ha := ha.turn 60 (.bool false) rfl (congrArg Value.bool (decide_eq_false c44))
         refine p_run [(4, 61, undef), (5, 62, undef), (6, 63, undef), (7, 64, .bool false), (8, 4, .bool false)] ha fun a ha => ?_
         refine p_end ?_
         replace ha := ha.as [(4, .bool false)] rfl
         refine then_n ?_
         refine wp_ret ?_
         refine in_r ?_
         refine then_r ?_
         refine end_res1 ha (by kernel_rfl) (resT (t := 4) ha rfl) ?_
         have hE : stepB (pv.n : Int) k xa xb = false := by first | (simp [stepB, c5, c11, c20, c39, c43, c44]; done) | (simp only [stepB, show (decide (1 ≤ k) && decide (k ≤ 13)) = false by (simp; omega), Bool.false_and])
         rw [hE]
         exact ⟨rfl, Sat.rest [_, _] hS⟩
       ·
        refine c_false ha rfl (decide_eq_false c43) ?_
        refine wp_seq ?_
        refine p_beginL [0, 1] ?_
        refine p_run [(0, 66, .bool (decide (k = 11))), (1, 65, .bool (decide (k = 11)))] ha fun a ha => ?_
        refine p_end ?_
        refine then_n ?_
        by_cases c45 : k = 11
        ·
         refine c_true ha rfl (decide_eq_true c45) ?_
         refine wp_seq ?_
         refine p_beginL [0, 1, 2, 3, 4, 5, 6, 7, 8] ?_
         refine p_run [(0, 67, ptr b3 1)] ha fun a ha => ?_
         refine p_ld (d := 68) (b := b3) (j := 1) ha (hS.blk 0 rfl) rfl fun a ha => ?_
         refine p_op (o_ret ha (by decide) (iAt (op := (Op.call { callee := (Callee.value (Operand.func 56)), args := #[(Operand.tmp 68), (Operand.const (Value.int IntKind.i64 0)), (Operand.const (Value.int IntKind.i64 8))], argTypes := #[3, 3, 3] })) (d := some 69) (ty := 4)) rfl Try.func56 (by kernel_rfl) (q_in hS _ _ _) fun v46 w a hp47 ha => ?_)
         obtain ⟨rfl, hS⟩ := hp47
         refine p_run [(3, 70, .bool (decide ((0 : Int) ≤ xa) && decide (xa ≤ 8)))] ha fun a ha => ?_
         rcases Bool.eq_false_or_eq_true (decide ((0 : Int) ≤ xa) && decide (xa ≤ 8)) with c48 | c48
         ·
          replace ha := ha.turn 69 (.bool true) rfl (congrArg Value.bool c48)
          replace ha := ha.turn 70 (.bool true) rfl (congrArg Value.bool c48)
          refine p_run [(4, 71, ptr b3 2)] ha fun a ha => ?_
          refine p_ld (d := 72) (b := b3) (j := 2) ha (hS.blk 0 rfl) rfl fun a ha => ?_
          refine p_op (o_ret ha (by decide) (AtG.here (gd := 70) ⟨(by kernel_rfl : ((regOf Try.f99 20)[6]?).map spec = some ((Op.call { callee := (Callee.value (Operand.func 115)), args := #[(Operand.tmp 72)], argTypes := #[3] }), some 73, 4, some (3, true))), by kernel_rfl⟩ ha rfl) rfl Try.func115 (by kernel_rfl) (q_reg hS _) fun v49 w a hp50 ha => ?_)
          obtain ⟨rfl, hS⟩ := hp50
          refine p_run [(7, 74, .bool (regB xb)), (8, 4, .bool (regB xb))] ha fun a ha => ?_
          refine p_end ?_
          replace ha := ha.as [(4, .bool (regB xb))] rfl
          refine then_n ?_
          refine wp_ret ?_
          refine in_r ?_
          refine then_r ?_
          refine end_res1 ha (by kernel_rfl) (resT (t := 4) ha rfl) ?_
          have hE : stepB (pv.n : Int) k xa xb = (regB xb) := by first | (simp [stepB, c5, c11, c20, c39, c43, c45, c48]; done) | (simp only [stepB, show (decide (1 ≤ k) && decide (k ≤ 13)) = false by (simp; omega), Bool.false_and])
          rw [hE]
          exact ⟨rfl, Sat.rest [_, _] hS⟩
         ·
          replace ha := ha.turn 69 (.bool false) rfl (congrArg Value.bool c48)
          replace ha := ha.turn 70 (.bool false) rfl (congrArg Value.bool c48)
          refine p_run [(4, 71, undef), (5, 72, undef), (6, 73, undef), (7, 74, .bool false), (8, 4, .bool false)] ha fun a ha => ?_
          refine p_end ?_
          replace ha := ha.as [(4, .bool false)] rfl
          refine then_n ?_
          refine wp_ret ?_
          refine in_r ?_
          refine then_r ?_
          refine end_res1 ha (by kernel_rfl) (resT (t := 4) ha rfl) ?_
          have hE : stepB (pv.n : Int) k xa xb = false := by first | (simp [stepB, c5, c11, c20, c39, c43, c45, c48]; done) | (simp only [stepB, show (decide (1 ≤ k) && decide (k ≤ 13)) = false by (simp; omega), Bool.false_and])
          rw [hE]
          exact ⟨rfl, Sat.rest [_, _] hS⟩
        ·
         refine c_false ha rfl (decide_eq_false c45) ?_
         refine wp_skip ?_
         refine in_n ?_
         refine then_n ?_
         refine wp_seq ?_
         refine p_beginL [0] ?_
         refine p_run [(0, 4, .bool false)] ha fun a ha => ?_
         refine p_end ?_
         replace ha := ha.as [(4, .bool false)] rfl
         refine then_n ?_
         refine wp_ret ?_
         refine end_res1 ha (by kernel_rfl) (resT (t := 4) ha rfl) ?_
         have hE : stepB (pv.n : Int) k xa xb = false := by first | (simp [stepB, c5, c11, c20, c39, c43, c45]; done) | (simp only [stepB, show (decide (1 ≤ k) && decide (k ≤ 13)) = false by (simp; omega), Bool.false_and])
         rw [hE]
         exact ⟨rfl, Sat.rest [_, _] hS⟩
theorem code78 : Try.f78.body = some (Code.seq (Code.region 0 (regOf Try.f78 0) false) (Code.seq (Code.seq (Code.region 1 (regOf Try.f78 1) false) (Code.cond (Operand.tmp 9) (Code.seq (Code.region 2 (regOf Try.f78 2) false) Code.ret) Code.skip)) (Code.seq (Code.seq (Code.region 3 (regOf Try.f78 3) false) (Code.block 0 (Code.loop (Code.seq (Code.seq (Code.region 4 (regOf Try.f78 4) false) (Code.cond (Operand.tmp 14) Code.skip (Code.exit 0))) (Code.seq (Code.block 1 (Code.seq (Code.seq (Code.region 6 (regOf Try.f78 6) false) (Code.cond (Operand.tmp 23) (Code.seq (Code.region 7 (regOf Try.f78 7) false) Code.ret) Code.skip)) (Code.seq (Code.region 8 (regOf Try.f78 8) false) (Code.block 2 (Code.loop (Code.seq (Code.seq (Code.region 9 (regOf Try.f78 9) false) (Code.cond (Operand.tmp 31) Code.skip (Code.exit 2))) (Code.seq (Code.block 3 (Code.seq (Code.region 11 (regOf Try.f78 11) true) (Code.cond (Operand.tmp 44) (Code.seq (Code.region 12 (regOf Try.f78 12) false) Code.ret) Code.skip))) (Code.region 10 (regOf Try.f78 10) false)))))))) (Code.region 5 (regOf Try.f78 5) false)))))) (Code.seq (Code.region 13 (regOf Try.f78 13) false) Code.ret)))) := by kernel_rfl
set_option maxRecDepth 20000 in
set_option maxHeartbeats 1000000 in
theorem q_prog {w0 w : World} {Rs : List Asn} {P : List (List Stp)} {pv : Sl} {sbs : List Sl} (hS : Sat w0 w Rs) (hl : P.length ≤ 2000000) (hPr : Keeps w0 Rs (fun w => RdProg w pv sbs P)) :
  Calls Try.prog 78 #[.agg #[.slice pv.A pv.n pv.c]] w (Ret fun r w' => r = .bool (progQ P) ∧ Sat w0 w' Rs) := by
 have hpn := (hPr w hS).len
 have hpA := (hPr w hS).A
 refine enter (n := 45) Try.func78 code78 (by kernel_rfl) (Nat.le_of_ble_eq_true rfl) (fun a ha => ?_)
 replace ha : Has 45 [(0, .agg #[.slice pv.A pv.n pv.c])] a := ha
 refine wp_seq ?_
 refine p_beginL [0, 1] ?_
 refine p_op (o_new (cs := [.slice pv.A pv.n pv.c]) (T := 31) (fun b => .pointer (some ⟨b, 0, none⟩)) ha (by decide) (iAt (op := (Op.box 31 (Operand.tmp 0))) (d := some 1) (ty := 0)) (by kernel_rfl) hS (fun _ => by kernel_rfl) fun b1 w a hb2 hS ha => ?_)
 refine p_run [(1, 2, .bool false)] ha fun a ha => ?_
 refine p_end ?_
 refine then_n ?_
 refine wp_seq ?_
 refine wp_seq ?_
 refine p_beginL [0, 1, 2, 3, 4] ?_
 refine p_run [(0, 5, ptr b1 0)] ha fun a ha => ?_
 refine p_ld (d := 6) (b := b1) (j := 0) ha (hS.blk 0 rfl) rfl fun a ha => ?_
 refine p_run [(2, 7, iv (pv.n : Int))] ha fun a ha => ?_
 refine p_op (o_ret ha (by decide) (iAt (op := (Op.call { callee := (Callee.value (Operand.func 56)), args := #[(Operand.tmp 7), (Operand.const (Value.int IntKind.i64 1)), (Operand.const (Value.int IntKind.i64 6))], argTypes := #[3, 3, 3] })) (d := some 8) (ty := 4)) rfl Try.func56 (by kernel_rfl) (q_in hS _ _ _) fun v3 w a hp4 ha => ?_)
 obtain ⟨rfl, hS⟩ := hp4
 refine p_run [(4, 9, .bool (!((decide ((1 : Int) ≤ (pv.n : Int)) && decide ((pv.n : Int) ≤ 6)))))] ha fun a ha => ?_
 refine p_end ?_
 refine then_n ?_
 rcases Bool.eq_false_or_eq_true (decide ((1 : Int) ≤ (pv.n : Int)) && decide ((pv.n : Int) ≤ 6)) with c5 | c5
 ·
  refine c_false ha rfl (not_ff c5) ?_
  refine wp_skip ?_
  refine then_n ?_
  refine wp_seq ?_
  refine wp_seq ?_
  refine p_beginL [0] ?_
  refine p_run [(0, 3, iv 0)] ha fun a ha => ?_
  refine p_end ?_
  refine then_n ?_
  refine wp_block ?_
  refine wp_loop_ghost (fun n_ a_ w_ => ∃ (i : Nat), n_ = P.length - i ∧ (i ≤ P.length) ∧ (∀ b ∈ P.take i, okB P.length b = true) ∧ Has 45 [(1, ptr b1 0), (2, .bool false), (3, iv (i : Int))] a_ ∧ Sat w0 w_ ((SX.blk b1 [.slice pv.A pv.n pv.c] 31) :: Rs)) _ ⟨0, rfl, Nat.zero_le _, (fun b hb => by simp at hb), ha.keeps [1, 2, 3] _ rfl, hS⟩ ?_
  -- the loop's round
  rintro n_ a w ⟨i, rfl, hi, hall, ha, hS⟩
  refine wp_seq ?_
  refine wp_seq ?_
  refine p_beginL [0, 1, 2, 3, 4] ?_
  refine p_run [(0, 10, iv (i : Int)), (1, 11, ptr b1 0)] ha fun a ha => ?_
  refine p_ld (d := 12) (b := b1) (j := 0) ha (hS.blk 0 rfl) rfl fun a ha => ?_
  refine p_run [(3, 13, iv (pv.n : Int)), (4, 14, .bool (decide ((i : Int) < (pv.n : Int))))] ha fun a ha => ?_
  refine p_end ?_
  refine then_n ?_
  by_cases c6 : (i : Int) < (pv.n : Int)
  ·
   have hlt : i < P.length := by have := c6; omega
   obtain ⟨body, hb⟩ : ∃ b, P[i]? = some b := ⟨_, List.getElem?_eq_getElem hlt⟩
   obtain ⟨sb, hbn, hbA, hsb⟩ := RdProg.body hPr (Sat.rest [_] hS) hb
   refine c_true ha rfl (decide_eq_true c6) ?_
   refine wp_skip ?_
   refine then_n ?_
   refine wp_seq ?_
   refine wp_block ?_
   refine wp_seq ?_
   refine wp_seq ?_
   refine p_beginL [0, 1, 2, 3, 4, 5, 6] ?_
   refine p_run [(0, 17, ptr b1 0)] ha fun a ha => ?_
   refine p_ld (d := 18) (b := b1) (j := 0) ha (hS.blk 0 rfl) rfl fun a ha => ?_
   refine p_run [(2, 19, iv (i : Int))] ha fun a ha => ?_
   refine p_val (v := .pointer (some ⟨bk pv, of_ pv + i * 1, none⟩)) ha (by decide) (v_indexR (s := pv) (el := 117) (sz := 1) (j := i) ha (iAt (op := (Op.indexAddr 29 (Operand.tmp 18) (Operand.tmp 19))) (d := some 20) (ty := 0)) rfl rfl (by kernel_rfl) (by kernel_rfl) (hpA (by omega)) (by omega)) (fun a ha => ?_)
   refine p_val (v := .slice sb.A sb.n sb.c) ha (by decide) (v_loadC (v := .slice sb.A sb.n sb.c) ha (iAt (op := (Op.load 117 (Operand.tmp 20))) (d := some 21) (ty := 117)) rfl (by kernel_rfl) (fun w' hw => by rw [hw, Nat.mul_one]; exact ((hsb.more [_]) _ hS).1)) (fun a ha => ?_)
   refine p_run [(5, 22, iv (sb.n : Int)), (6, 23, .bool (decide ((sb.n : Int) > 8)))] ha fun a ha => ?_
   refine p_end ?_
   refine then_n ?_
   by_cases c7 : (sb.n : Int) > 8
   ·
    refine c_true ha rfl (decide_eq_true c7) ?_
    refine wp_seq ?_
    refine p_beginL [0] ?_
    refine p_run [(0, 2, .bool false)] ha fun a ha => ?_
    refine p_end ?_
    refine then_n ?_
    refine wp_ret ?_
    refine then_r ?_
    refine in_r ?_
    refine then_r ?_
    refine then_r ?_
    refine in_r ?_
    refine then_r ?_
    refine end_res1 ha (by kernel_rfl) (resT (t := 2) ha rfl) ?_
    have hE := progQ_no (List.mem_of_getElem? hb) (okB_len (by have := c7; omega))
    rw [hE]
    exact ⟨rfl, Sat.rest [_] hS⟩
   ·
    refine c_false ha rfl (decide_eq_false c7) ?_
    refine wp_skip ?_
    refine then_n ?_
    refine wp_seq ?_
    refine p_beginL [0] ?_
    refine p_run [(0, 4, iv 0)] ha fun a ha => ?_
    refine p_end ?_
    refine then_n ?_
    refine wp_block ?_
    refine wp_loop_ghost (fun n_ a_ w_ => ∃ (j : Nat), n_ = body.length - j ∧ (j ≤ body.length) ∧ (∀ s ∈ body.take j, stepB (P.length : Int) s.k s.a s.b = true) ∧ Has 45 [(1, ptr b1 0), (2, .bool false), (3, iv (i : Int)), (4, iv (j : Int))] a_ ∧ Sat w0 w_ ((SX.blk b1 [.slice pv.A pv.n pv.c] 31) :: Rs)) _ ⟨0, rfl, Nat.zero_le _, (fun b hb => by simp at hb), ha.keeps [1, 2, 3, 4] _ rfl, hS⟩ ?_
    -- the loop's round
    rintro n_ a w ⟨j, rfl, hj, hin, ha, hS⟩
    refine wp_seq ?_
    refine wp_seq ?_
    refine p_beginL [0, 1, 2, 3, 4, 5, 6, 7] ?_
    refine p_run [(0, 24, iv (j : Int)), (1, 25, ptr b1 0)] ha fun a ha => ?_
    refine p_ld (d := 26) (b := b1) (j := 0) ha (hS.blk 0 rfl) rfl fun a ha => ?_
    refine p_run [(3, 27, iv (i : Int))] ha fun a ha => ?_
    refine p_val (v := .pointer (some ⟨bk pv, of_ pv + i * 1, none⟩)) ha (by decide) (v_indexR (s := pv) (el := 117) (sz := 1) (j := i) ha (iAt (op := (Op.indexAddr 29 (Operand.tmp 26) (Operand.tmp 27))) (d := some 28) (ty := 0)) rfl rfl (by kernel_rfl) (by kernel_rfl) (hpA (by omega)) (by omega)) (fun a ha => ?_)
    refine p_val (v := .slice sb.A sb.n sb.c) ha (by decide) (v_loadC (v := .slice sb.A sb.n sb.c) ha (iAt (op := (Op.load 117 (Operand.tmp 28))) (d := some 29) (ty := 117)) rfl (by kernel_rfl) (fun w' hw => by rw [hw, Nat.mul_one]; exact ((hsb.more [_]) _ hS).1)) (fun a ha => ?_)
    refine p_run [(6, 30, iv (sb.n : Int)), (7, 31, .bool (decide ((j : Int) < (sb.n : Int))))] ha fun a ha => ?_
    refine p_end ?_
    refine then_n ?_
    by_cases c8 : (j : Int) < (sb.n : Int)
    ·
     have hlj : j < body.length := by have := c8; omega
     obtain ⟨z, hz⟩ : ∃ z, body[j]? = some z := ⟨_, List.getElem?_eq_getElem hlj⟩
     refine c_true ha rfl (decide_eq_true c8) ?_
     refine wp_skip ?_
     refine then_n ?_
     refine wp_seq ?_
     refine wp_block ?_
     refine wp_seq ?_
     refine d_start 9 11 hS fun w hS => ?_
     refine d_val (i := 0) ha (by decide) (v_loadW ha (iAt (op := (Op.load 31 (Operand.tmp 1))) (d := some 34) (ty := 31)) rfl (by kernel_rfl) (fun _ hw => hw.blk 0 rfl)) hS (by kernel_rfl) (by kernel_rfl) (pk_then (pk_in (pk_then (pk_then (pk_in (pk_in (pk_then (pk_then (pk_in (pk_then (pk_body))))))))))) fun a ha => ?_
     refine d_run (k := 9) [(1, 35, ptr b1 0)] ha (.inr hS) (pk_then (pk_in (pk_then (pk_then (pk_in (pk_in (pk_then (pk_then (pk_in (pk_then (pk_body))))))))))) fun a ha => ?_
     refine d_ldN 2 (d := 36) (b := b1) (j := 0) ha hS (pk_then (pk_in (pk_then (pk_then (pk_in (pk_in (pk_then (pk_then (pk_in (pk_then (pk_body))))))))))) (fun _ hw => hw.blk 0 rfl) rfl fun a ha => ?_
     refine d_run (k := 7) [(3, 37, iv (i : Int))] ha (.inr hS) (pk_then (pk_in (pk_then (pk_then (pk_in (pk_in (pk_then (pk_then (pk_in (pk_then (pk_body))))))))))) fun a ha => ?_
     refine d_pure (i := 4) (v := .pointer (some ⟨bk pv, of_ pv + i * 1, none⟩)) ha (by decide) (v_indexR (s := pv) (el := 117) (sz := 1) (j := i) ha (iAt (op := (Op.indexAddr 29 (Operand.tmp 36) (Operand.tmp 37))) (d := some 38) (ty := 0)) rfl rfl (by kernel_rfl) (by kernel_rfl) (hpA (by omega)) (by omega)) (.inr hS) (by kernel_rfl) (by kernel_rfl) (pk_then (pk_in (pk_then (pk_then (pk_in (pk_in (pk_then (pk_then (pk_in (pk_then (pk_body))))))))))) fun a ha => ?_
     refine d_valN (i := 5) (v := .slice sb.A sb.n sb.c) ha (by decide) (v_loadC (v := .slice sb.A sb.n sb.c) ha (iAt (op := (Op.load 117 (Operand.tmp 38))) (d := some 39) (ty := 117)) rfl (by kernel_rfl) (fun w' hw => by rw [Nat.mul_one]; exact ((hsb.more [_]) _ hw).1)) hS (by kernel_rfl) (by kernel_rfl) (pk_then (pk_in (pk_then (pk_then (pk_in (pk_in (pk_then (pk_then (pk_in (pk_then (pk_body))))))))))) fun a ha => ?_
     refine d_run (k := 4) [(6, 40, iv (j : Int))] ha (.inr hS) (pk_then (pk_in (pk_then (pk_then (pk_in (pk_in (pk_then (pk_then (pk_in (pk_then (pk_body))))))))))) fun a ha => ?_
     refine d_pure (i := 7) (v := .pointer (some ⟨bk sb, of_ sb + j * 3, none⟩)) ha (by decide) (v_indexR (s := sb) (el := 144) (sz := 3) (j := j) ha (iAt (op := (Op.indexAddr 117 (Operand.tmp 39) (Operand.tmp 40))) (d := some 41) (ty := 0)) rfl rfl (by kernel_rfl) (by kernel_rfl) (hbA (by omega)) (by omega)) (.inr hS) (by kernel_rfl) (by kernel_rfl) (pk_then (pk_in (pk_then (pk_then (pk_in (pk_in (pk_then (pk_then (pk_in (pk_then (pk_body))))))))))) fun a ha => ?_
     refine d_val (i := 8) (v := .agg #[iv z.k, iv z.a, iv z.b]) ha (by decide) (v_loadL (v := .agg #[iv z.k, iv z.a, iv z.b]) ha (iAt (op := (Op.load 144 (Operand.tmp 41))) (d := some 42) (ty := 144)) rfl (fun w' hw => ((hsb.more [_]) _ hw).2.load hz)) hS (by kernel_rfl) (by kernel_rfl) (pk_then (pk_in (pk_then (pk_then (pk_in (pk_in (pk_then (pk_then (pk_in (pk_then (pk_body))))))))))) fun a ha => ?_
     refine d_one (i := 9) (by kernel_rfl) (o_ret ha (by decide) (iAt (op := (Op.call { callee := (Callee.value (Operand.func 99)), args := #[(Operand.tmp 34), (Operand.tmp 42)], argTypes := #[31, 144] })) (d := some 43) (ty := 4)) rfl Try.func99 (by kernel_rfl) (q_step hS (by omega)) fun v9 w a hp10 ha => ?_)
     obtain ⟨rfl, hS⟩ := hp10
     refine ⟨.inl (by kernel_rfl), ?_⟩
     refine d_run (k := 0) [(10, 44, .bool (!((stepB (pv.n : Int) z.k z.a z.b))))] ha (.inl (by kernel_rfl)) (pk_then (pk_in (pk_then (pk_then (pk_in (pk_in (pk_then (pk_then (pk_in (pk_then (pk_body))))))))))) fun a ha => ?_
     refine d_end (by kernel_rfl) ?_ _
     refine then_n ?_
     rcases Bool.eq_false_or_eq_true (stepB (pv.n : Int) z.k z.a z.b) with c11 | c11
     ·
      refine c_false ha rfl (not_ff c11) ?_
      refine wp_skip ?_
      refine in_n ?_
      refine then_n ?_
      refine p_beginL [0, 1, 2] ?_
      refine p_run [(0, 32, iv (j : Int))] ha fun a ha => ?_
      refine p_val (v := iv ((j : Int) + 1)) ha (by decide) ((v_pure (v := .int .i64 (IntKind.i64.wrap ((j : Int) + 1))) ha (iAt (op := (Op.binOp BinOp.add 3 (Operand.tmp 32) (Operand.const (Value.int IntKind.i64 1)) 3)) (d := some 33) (ty := 3)) (by kernel_rfl) (fun _ => by kernel_rfl)).as (by rw [wrap_i64 (by omega) (by omega)])) (fun a ha => ?_)
      refine p_run [(2, 4, iv ((j : Int) + 1))] ha fun a ha => ?_
      refine p_end ?_
      refine then_n ?_
      exact ⟨_, by omega, j + 1, rfl, by omega, take_all hin hz (by rw [← hpn]; exact c11), ha.keeps [1, 2, 3, 4] _ rfl, hS⟩
     ·
      refine c_true ha rfl (not_tt c11) ?_
      refine wp_seq ?_
      refine p_beginL [0] ?_
      refine p_run [(0, 2, .bool false)] ha fun a ha => ?_
      refine p_end ?_
      refine then_n ?_
      refine wp_ret ?_
      refine in_r ?_
      refine then_r ?_
      refine then_r ?_
      refine in_r ?_
      refine in_r ?_
      refine then_r ?_
      refine then_r ?_
      refine in_r ?_
      refine then_r ?_
      refine end_res1 ha (by kernel_rfl) (resT (t := 2) ha rfl) ?_
      have hE := progQ_no (List.mem_of_getElem? hb) (okB_step (List.mem_of_getElem? hz) (by rw [← hpn]; exact c11))
      rw [hE]
      exact ⟨rfl, Sat.rest [_] hS⟩
    ·
     refine c_false ha rfl (decide_eq_false c8) ?_
     refine wp_exit ?_
     refine then_x ?_
     refine then_x ?_
     refine in_x ?_
     refine in_n ?_
     refine then_n ?_
     refine p_beginL [0, 1, 2] ?_
     refine p_run [(0, 15, iv (i : Int))] ha fun a ha => ?_
     refine p_val (v := iv ((i : Int) + 1)) ha (by decide) ((v_pure (v := .int .i64 (IntKind.i64.wrap ((i : Int) + 1))) ha (iAt (op := (Op.binOp BinOp.add 3 (Operand.tmp 15) (Operand.const (Value.int IntKind.i64 1)) 3)) (d := some 16) (ty := 3)) (by kernel_rfl) (fun _ => by kernel_rfl)).as (by rw [wrap_i64 (by omega) (by omega)])) (fun a ha => ?_)
     refine p_run [(2, 3, iv ((i : Int) + 1))] ha fun a ha => ?_
     refine p_end ?_
     refine then_n ?_
     exact ⟨_, by omega, i + 1, rfl, by omega, take_all hall hb (okB_yes (by omega) (by rw [show body = body.take j by rw [List.take_of_length_le (by have := c8; omega)]]; exact hin)), ha.keeps [1, 2, 3] _ rfl, hS⟩
  ·
   refine c_false ha rfl (decide_eq_false c6) ?_
   refine wp_exit ?_
   refine then_x ?_
   refine then_x ?_
   refine in_x ?_
   refine then_n ?_
   refine wp_seq ?_
   refine p_beginL [0] ?_
   refine p_run [(0, 2, .bool true)] ha fun a ha => ?_
   refine p_end ?_
   refine then_n ?_
   refine wp_ret ?_
   refine end_res1 ha (by kernel_rfl) (resT (t := 2) ha rfl) ?_
   have hE := progQ_yes (by rw [← hpn]; exact c5) (by rw [show P = P.take i by rw [List.take_of_length_le (by have := c6; omega)]]; intro b hb; rw [List.length_take, Nat.min_eq_left hi, show i = P.length by have := c6; omega]; exact hall b hb)
   rw [hE]
   exact ⟨rfl, Sat.rest [_] hS⟩
 ·
  refine c_true ha rfl (not_tt c5) ?_
  refine wp_seq ?_
  refine p_beginL [0] ?_
  refine p_run [(0, 2, .bool false)] ha fun a ha => ?_
  refine p_end ?_
  refine then_n ?_
  refine wp_ret ?_
  refine then_r ?_
  refine end_res1 ha (by kernel_rfl) (resT (t := 2) ha rfl) ?_
  have hE := progQ_len (by rw [← hpn]; exact c5)
  rw [hE]
  exact ⟨rfl, Sat.rest [_] hS⟩
theorem code46 : Try.f46.body = some (Code.seq (Code.region 0 (regOf Try.f46 0) false) (Code.seq (Code.region 1 (regOf Try.f46 1) false) Code.ret)) := by kernel_rfl
set_option maxRecDepth 20000 in
set_option maxHeartbeats 1000000 in
theorem q_ask {w0 w : World} {Rs : List Asn} {P : List (List Stp)} {pv : Sl} {sbs : List Sl} {f arg fuel : Int} (hS : Sat w0 w Rs) (hl : P.length ≤ 2000000) (hPr : Keeps w0 Rs (fun w => RdProg w pv sbs P)) :
  Calls Try.prog 46 #[.agg #[.slice pv.A pv.n pv.c], .int .i64 f, .int .i64 arg, .int .i64 fuel] w (Ret fun r w' => r = .bool (progQ P && (decide ((0 : Int) ≤ f) && decide (f ≤ (pv.n : Int) - 1)) && numB arg && (decide ((0 : Int) ≤ fuel) && decide (fuel ≤ 200))) ∧ Sat w0 w' Rs) := by
 have hpn := (hPr w hS).len
 refine enter (n := 24) Try.func46 code46 (by kernel_rfl) (Nat.le_of_ble_eq_true rfl) (fun a ha => ?_)
 replace ha : Has 24 [(0, .agg #[.slice pv.A pv.n pv.c]), (1, iv f), (2, iv arg), (3, iv fuel)] a := ha
 refine wp_seq ?_
 refine p_beginL [0, 1] ?_
 refine p_op (o_new (cs := [.slice pv.A pv.n pv.c]) (T := 31) (fun b => .pointer (some ⟨b, 0, none⟩)) ha (by decide) (iAt (op := (Op.box 31 (Operand.tmp 0))) (d := some 4) (ty := 0)) (by kernel_rfl) hS (fun _ => by kernel_rfl) fun b1 w a hb2 hS ha => ?_)
 refine p_run [(1, 8, .bool false)] ha fun a ha => ?_
 refine p_end ?_
 refine then_n ?_
 refine wp_seq ?_
 refine p_beginL [0, 1, 2, 3, 4, 5, 6, 7, 8, 9, 10, 11, 12, 13, 14, 15] ?_
 refine p_val ha (by decide) (v_loadW ha (iAt (op := (Op.load 31 (Operand.tmp 4))) (d := some 9) (ty := 31)) rfl (by kernel_rfl) (fun _ hw => by rw [hw]; exact hS.blk 0 rfl)) (fun a ha => ?_)
 refine p_op (o_ret ha (by decide) (iAt (op := (Op.call { callee := (Callee.value (Operand.func 78)), args := #[(Operand.tmp 9)], argTypes := #[31] })) (d := some 10) (ty := 4)) rfl Try.func78 (by kernel_rfl) (q_prog hS hl (hPr.more [_])) fun v3 w a hp4 ha => ?_)
 obtain ⟨rfl, hS⟩ := hp4
 refine p_run [(2, 11, .bool (progQ P))] ha fun a ha => ?_
 rcases Bool.eq_false_or_eq_true (progQ P) with c5 | c5
 ·
  replace ha := ha.turn 10 (.bool true) rfl (congrArg Value.bool c5)
  replace ha := ha.turn 11 (.bool true) rfl (congrArg Value.bool c5)
  refine p_val ha (by decide) (v_loadW ha (AtG.here (gd := 11) ⟨(by kernel_rfl : ((regOf Try.f46 1)[3]?).map spec = some ((Op.load 31 (Operand.tmp 4)), some 12, 31, some (2, true))), by kernel_rfl⟩ ha rfl) rfl (by kernel_rfl) (fun _ hw => by rw [hw]; exact hS.blk 0 rfl)) (fun a ha => ?_)
  refine p_run [(4, 13, iv f)] ha fun a ha => ?_
  refine p_op (o_ret ha (by decide) (AtG.here (gd := 11) ⟨(by kernel_rfl : ((regOf Try.f46 1)[5]?).map spec = some ((Op.call { callee := (Callee.value (Operand.func 79)), args := #[(Operand.tmp 12), (Operand.tmp 13)], argTypes := #[31, 3] }), some 14, 4, some (2, true))), by kernel_rfl⟩ ha rfl) rfl Try.func79 (by kernel_rfl) (q_fun hS _ (by omega)) fun v6 w a hp7 ha => ?_)
  obtain ⟨rfl, hS⟩ := hp7
  refine p_run [(6, 15, .bool (decide ((0 : Int) ≤ f) && decide (f ≤ (pv.n : Int) - 1))), (7, 16, .bool (decide ((0 : Int) ≤ f) && decide (f ≤ (pv.n : Int) - 1)))] ha fun a ha => ?_
  rcases Bool.eq_false_or_eq_true (decide ((0 : Int) ≤ f) && decide (f ≤ (pv.n : Int) - 1)) with c8 | c8
  ·
   replace ha := ha.turn 14 (.bool true) rfl (congrArg Value.bool c8)
   replace ha := ha.turn 15 (.bool true) rfl (congrArg Value.bool c8)
   replace ha := ha.turn 16 (.bool true) rfl (congrArg Value.bool c8)
   refine p_run [(8, 17, iv arg)] ha fun a ha => ?_
   refine p_op (o_ret ha (by decide) (AtG.here (gd := 16) ⟨(by kernel_rfl : ((regOf Try.f46 1)[9]?).map spec = some ((Op.call { callee := (Callee.value (Operand.func 70)), args := #[(Operand.tmp 17)], argTypes := #[3] }), some 18, 4, some (7, true))), by kernel_rfl⟩ ha rfl) rfl Try.func70 (by kernel_rfl) (q_num hS _) fun v9 w a hp10 ha => ?_)
   obtain ⟨rfl, hS⟩ := hp10
   refine p_run [(10, 19, .bool (numB arg)), (11, 20, .bool (numB arg))] ha fun a ha => ?_
   rcases Bool.eq_false_or_eq_true (numB arg) with c11 | c11
   ·
    replace ha := ha.turn 18 (.bool true) rfl (congrArg Value.bool c11)
    replace ha := ha.turn 19 (.bool true) rfl (congrArg Value.bool c11)
    replace ha := ha.turn 20 (.bool true) rfl (congrArg Value.bool c11)
    refine p_run [(12, 21, iv fuel)] ha fun a ha => ?_
    refine p_op (o_ret ha (by decide) (AtG.here (gd := 20) ⟨(by kernel_rfl : ((regOf Try.f46 1)[13]?).map spec = some ((Op.call { callee := (Callee.value (Operand.func 56)), args := #[(Operand.tmp 21), (Operand.const (Value.int IntKind.i64 0)), (Operand.const (Value.int IntKind.i64 200))], argTypes := #[3, 3, 3] }), some 22, 4, some (11, true))), by kernel_rfl⟩ ha rfl) rfl Try.func56 (by kernel_rfl) (q_in hS _ _ _) fun v12 w a hp13 ha => ?_)
    obtain ⟨rfl, hS⟩ := hp13
    refine p_run [(14, 23, .bool (decide ((0 : Int) ≤ fuel) && decide (fuel ≤ 200))), (15, 8, .bool (decide ((0 : Int) ≤ fuel) && decide (fuel ≤ 200)))] ha fun a ha => ?_
    refine p_end ?_
    replace ha := ha.as [(8, .bool (decide ((0 : Int) ≤ fuel) && decide (fuel ≤ 200)))] rfl
    refine then_n ?_
    refine wp_ret ?_
    refine end_res1 ha (by kernel_rfl) (resT (t := 8) ha rfl) ?_
    have hE : (progQ P && (decide ((0 : Int) ≤ f) && decide (f ≤ (pv.n : Int) - 1)) && numB arg && (decide ((0 : Int) ≤ fuel) && decide (fuel ≤ 200))) = (decide ((0 : Int) ≤ fuel) && decide (fuel ≤ 200)) := by simp only [c5, c8, c11, Bool.true_and, Bool.false_and, Bool.and_self]
    rw [hE]
    exact ⟨rfl, Sat.rest [_] hS⟩
   ·
    replace ha := ha.turn 18 (.bool false) rfl (congrArg Value.bool c11)
    replace ha := ha.turn 19 (.bool false) rfl (congrArg Value.bool c11)
    replace ha := ha.turn 20 (.bool false) rfl (congrArg Value.bool c11)
    refine p_run [(12, 21, undef), (13, 22, undef), (14, 23, .bool false), (15, 8, .bool false)] ha fun a ha => ?_
    refine p_end ?_
    replace ha := ha.as [(8, .bool false)] rfl
    refine then_n ?_
    refine wp_ret ?_
    refine end_res1 ha (by kernel_rfl) (resT (t := 8) ha rfl) ?_
    have hE : (progQ P && (decide ((0 : Int) ≤ f) && decide (f ≤ (pv.n : Int) - 1)) && numB arg && (decide ((0 : Int) ≤ fuel) && decide (fuel ≤ 200))) = false := by simp only [c5, c8, c11, Bool.true_and, Bool.false_and, Bool.and_self]
    rw [hE]
    exact ⟨rfl, Sat.rest [_] hS⟩
  ·
   replace ha := ha.turn 14 (.bool false) rfl (congrArg Value.bool c8)
   replace ha := ha.turn 15 (.bool false) rfl (congrArg Value.bool c8)
   replace ha := ha.turn 16 (.bool false) rfl (congrArg Value.bool c8)
   refine p_run [(8, 17, undef), (9, 18, undef), (10, 19, .bool false), (11, 20, .bool false), (12, 21, undef), (13, 22, undef), (14, 23, .bool false), (15, 8, .bool false)] ha fun a ha => ?_
   refine p_end ?_
   replace ha := ha.as [(8, .bool false)] rfl
   refine then_n ?_
   refine wp_ret ?_
   refine end_res1 ha (by kernel_rfl) (resT (t := 8) ha rfl) ?_
   have hE : (progQ P && (decide ((0 : Int) ≤ f) && decide (f ≤ (pv.n : Int) - 1)) && numB arg && (decide ((0 : Int) ≤ fuel) && decide (fuel ≤ 200))) = false := by simp only [c5, c8, Bool.true_and, Bool.false_and, Bool.and_self]
   rw [hE]
   exact ⟨rfl, Sat.rest [_] hS⟩
 ·
  replace ha := ha.turn 10 (.bool false) rfl (congrArg Value.bool c5)
  replace ha := ha.turn 11 (.bool false) rfl (congrArg Value.bool c5)
  refine p_run [(3, 12, undef), (4, 13, undef), (5, 14, undef), (6, 15, .bool false), (7, 16, .bool false), (8, 17, undef), (9, 18, undef), (10, 19, .bool false), (11, 20, .bool false), (12, 21, undef), (13, 22, undef), (14, 23, .bool false), (15, 8, .bool false)] ha fun a ha => ?_
  refine p_end ?_
  replace ha := ha.as [(8, .bool false)] rfl
  refine then_n ?_
  refine wp_ret ?_
  refine end_res1 ha (by kernel_rfl) (resT (t := 8) ha rfl) ?_
  have hE : (progQ P && (decide ((0 : Int) ≤ f) && decide (f ≤ (pv.n : Int) - 1)) && numB arg && (decide ((0 : Int) ≤ fuel) && decide (fuel ≤ 200))) = false := by simp only [c5, Bool.true_and, Bool.false_and, Bool.and_self]
  rw [hE]
  exact ⟨rfl, Sat.rest [_] hS⟩
end Go.Proofs.Ytdbbafepjgnmeaa.G
end
section
namespace Go.Proofs.Ytdbbafepjgnmeaa.G
open Go.RowKit Go.Proofs.Ytdbbafepjgnmeaa.SX Go.Proofs.YtdbbafepjgnmeaaW.PrintWords Go.Proofs.YtdbbafepjgnmeaaW.PrintLast Go.Proofs.YtdbbafepjgnmeaaW.PrintMore
set_option linter.unusedVariables false
set_option linter.unusedSimpArgs false
theorem code101 : Try.f101.body = some (Code.seq (Code.region 0 (regOf Try.f101 0) false) (Code.seq (Code.seq (Code.region 1 (regOf Try.f101 1) false) (Code.cond (Operand.tmp 9) (Code.seq (Code.region 2 (regOf Try.f101 2) false) Code.ret) Code.skip)) (Code.seq (Code.seq (Code.region 3 (regOf Try.f101 3) false) (Code.cond (Operand.tmp 14) (Code.seq (Code.region 4 (regOf Try.f101 4) false) Code.ret) Code.skip)) (Code.seq (Code.seq (Code.region 5 (regOf Try.f101 5) false) (Code.cond (Operand.tmp 19) (Code.seq (Code.region 6 (regOf Try.f101 6) false) Code.ret) Code.skip)) (Code.seq (Code.region 7 (regOf Try.f101 7) false) Code.ret))))) := by kernel_rfl
set_option maxRecDepth 20000 in
set_option maxHeartbeats 1000000 in
theorem eq_step {w0 w : World} {Rs : List Asn} {k xa xb : Int} (hS : Sat w0 w Rs)  :
  Calls Try.prog 101 #[.agg #[iv k, iv xa, iv xb], .agg #[iv k, iv xa, iv xb]] w (Ret fun r w' => r = .bool true ∧ Sat w0 w' Rs) := by
 refine enter (n := 20) Try.func101 code101 (by kernel_rfl) (Nat.le_of_ble_eq_true rfl) (fun a ha => ?_)
 replace ha : Has 20 [(0, .agg #[iv k, iv xa, iv xb]), (1, .agg #[iv k, iv xa, iv xb])] a := ha
 refine wp_seq ?_
 refine p_beginL [0, 1, 2] ?_
 refine p_op (o_new (cs := [iv k, iv xa, iv xb]) (T := 144) (fun b => .pointer (some ⟨b, 0, none⟩)) ha (by decide) (iAt (op := (Op.box 144 (Operand.tmp 0))) (d := some 2) (ty := 0)) (by kernel_rfl) hS (fun _ => by kernel_rfl) fun b1 w a hb2 hS ha => ?_)
 refine p_op (o_new (cs := [iv k, iv xa, iv xb]) (T := 144) (fun b => .pointer (some ⟨b, 0, none⟩)) ha (by decide) (iAt (op := (Op.box 144 (Operand.tmp 1))) (d := some 3) (ty := 0)) (by kernel_rfl) hS (fun _ => by kernel_rfl) fun b3 w a hb4 hS ha => ?_)
 refine p_run [(2, 4, .bool false)] ha fun a ha => ?_
 refine p_end ?_
 refine then_n ?_
 refine wp_seq ?_
 refine wp_seq ?_
 refine p_beginL [0, 1, 2, 3, 4] ?_
 refine p_run [(0, 5, ptr b1 0)] ha fun a ha => ?_
 refine p_ld (d := 6) (b := b1) (j := 0) ha (hS.blk 1 rfl) rfl fun a ha => ?_
 refine p_run [(2, 7, ptr b3 0)] ha fun a ha => ?_
 refine p_ld (d := 8) (b := b3) (j := 0) ha (hS.blk 0 rfl) rfl fun a ha => ?_
 refine p_val (v := .bool false) ha (by decide) ((v_pure (v := .bool (!decide (k = k))) ha (iAt (op := (Op.binOp BinOp.neq 3 (Operand.tmp 6) (Operand.tmp 8) 3)) (d := some 9) (ty := 4)) (by kernel_rfl) (fun _ => by kernel_rfl)).as (by simp)) (fun a ha => ?_)
 refine p_end ?_
 refine then_n ?_
 refine c_false ha rfl rfl ?_
 refine wp_skip ?_
 refine then_n ?_
 refine wp_seq ?_
 refine wp_seq ?_
 refine p_beginL [0, 1, 2, 3, 4] ?_
 refine p_run [(0, 10, ptr b1 1)] ha fun a ha => ?_
 refine p_ld (d := 11) (b := b1) (j := 1) ha (hS.blk 1 rfl) rfl fun a ha => ?_
 refine p_run [(2, 12, ptr b3 1)] ha fun a ha => ?_
 refine p_ld (d := 13) (b := b3) (j := 1) ha (hS.blk 0 rfl) rfl fun a ha => ?_
 refine p_val (v := .bool false) ha (by decide) ((v_pure (v := .bool (!decide (xa = xa))) ha (iAt (op := (Op.binOp BinOp.neq 3 (Operand.tmp 11) (Operand.tmp 13) 3)) (d := some 14) (ty := 4)) (by kernel_rfl) (fun _ => by kernel_rfl)).as (by simp)) (fun a ha => ?_)
 refine p_end ?_
 refine then_n ?_
 refine c_false ha rfl rfl ?_
 refine wp_skip ?_
 refine then_n ?_
 refine wp_seq ?_
 refine wp_seq ?_
 refine p_beginL [0, 1, 2, 3, 4] ?_
 refine p_run [(0, 15, ptr b1 2)] ha fun a ha => ?_
 refine p_ld (d := 16) (b := b1) (j := 2) ha (hS.blk 1 rfl) rfl fun a ha => ?_
 refine p_run [(2, 17, ptr b3 2)] ha fun a ha => ?_
 refine p_ld (d := 18) (b := b3) (j := 2) ha (hS.blk 0 rfl) rfl fun a ha => ?_
 refine p_val (v := .bool false) ha (by decide) ((v_pure (v := .bool (!decide (xb = xb))) ha (iAt (op := (Op.binOp BinOp.neq 3 (Operand.tmp 16) (Operand.tmp 18) 3)) (d := some 19) (ty := 4)) (by kernel_rfl) (fun _ => by kernel_rfl)).as (by simp)) (fun a ha => ?_)
 refine p_end ?_
 refine then_n ?_
 refine c_false ha rfl rfl ?_
 refine wp_skip ?_
 refine then_n ?_
 refine wp_seq ?_
 refine p_beginL [0] ?_
 refine p_run [(0, 4, .bool true)] ha fun a ha => ?_
 refine p_end ?_
 replace ha := ha.as [(4, .bool true)] rfl
 refine then_n ?_
 refine wp_ret ?_
 refine end_res1 ha (by kernel_rfl) (resT (t := 4) ha rfl) ?_
 exact ⟨rfl, Sat.rest [_, _] hS⟩
theorem code83 : Try.f83.body = some (Code.seq (Code.region 0 (regOf Try.f83 0) false) (Code.seq (Code.seq (Code.region 1 (regOf Try.f83 1) false) (Code.cond (Operand.tmp 10) (Code.seq (Code.region 2 (regOf Try.f83 2) false) Code.ret) Code.skip)) (Code.seq (Code.seq (Code.region 3 (regOf Try.f83 3) false) (Code.block 0 (Code.loop (Code.seq (Code.seq (Code.region 4 (regOf Try.f83 4) false) (Code.cond (Operand.tmp 14) Code.skip (Code.exit 0))) (Code.seq (Code.block 1 (Code.seq (Code.region 6 (regOf Try.f83 6) true) (Code.cond (Operand.tmp 26) (Code.seq (Code.region 7 (regOf Try.f83 7) false) Code.ret) Code.skip))) (Code.region 5 (regOf Try.f83 5) false)))))) (Code.seq (Code.region 8 (regOf Try.f83 8) false) Code.ret)))) := by kernel_rfl
set_option maxRecDepth 20000 in
set_option maxHeartbeats 1000000 in
theorem eq_steps {w0 w : World} {Rs : List Asn} {b : List Stp} {s1 s2 : Sl} (hS : Sat w0 w Rs) (h1 : Keeps w0 Rs (fun w => RdBody w s1 b)) (h2 : Keeps w0 Rs (fun w => RdBody w s2 b)) (hlb : b.length ≤ 2000000) :
  Calls Try.prog 83 #[.slice s1.A s1.n s1.c, .slice s2.A s2.n s2.c] w (Ret fun r w' => r = .bool true ∧ Sat w0 w' Rs) := by
 have hn1 := (h1 w hS).len
 have hn2 := (h2 w hS).len
 have hA1 := (h1 w hS).A
 have hA2 := (h2 w hS).A
 refine enter (n := 27) Try.func83 code83 (by kernel_rfl) (Nat.le_of_ble_eq_true rfl) (fun a ha => ?_)
 replace ha : Has 27 [(0, .slice s1.A s1.n s1.c), (1, .slice s2.A s2.n s2.c)] a := ha
 refine wp_seq ?_
 refine p_beginL [0] ?_
 refine p_run [(0, 4, .bool false)] ha fun a ha => ?_
 refine p_end ?_
 refine then_n ?_
 refine wp_seq ?_
 refine wp_seq ?_
 refine p_beginL [0, 1, 2, 3, 4] ?_
 refine p_run [(0, 6, .slice s1.A s1.n s1.c), (1, 7, iv (s1.n : Int)), (2, 8, .slice s2.A s2.n s2.c), (3, 9, iv (s2.n : Int)), (4, 10, .bool (!(decide ((s1.n : Int) = (s2.n : Int)))))] ha fun a ha => ?_
 refine p_end ?_
 refine then_n ?_
 by_cases c1 : (s1.n : Int) = (s2.n : Int)
 ·
  refine c_false ha rfl (not_ff (decide_eq_true c1)) ?_
  refine wp_skip ?_
  refine then_n ?_
  refine wp_seq ?_
  refine wp_seq ?_
  refine p_beginL [0] ?_
  refine p_run [(0, 5, iv 0)] ha fun a ha => ?_
  refine p_end ?_
  refine then_n ?_
  refine wp_block ?_
  refine wp_loop_ghost (fun n_ a_ w_ => ∃ (i : Nat), n_ = b.length - i ∧ (i ≤ b.length) ∧ Has 27 [(0, .slice s1.A s1.n s1.c), (1, .slice s2.A s2.n s2.c), (5, iv (i : Int))] a_ ∧ Sat w0 w_ (Rs)) _ ⟨0, rfl, Nat.zero_le _, ha.keeps [0, 1, 5] _ rfl, hS⟩ ?_
  -- the loop's round
  rintro n_ a w ⟨i, rfl, hi, ha, hS⟩
  refine wp_seq ?_
  refine wp_seq ?_
  refine p_beginL [0, 1, 2, 3] ?_
  refine p_run [(0, 11, iv (i : Int)), (1, 12, .slice s1.A s1.n s1.c), (2, 13, iv (s1.n : Int)), (3, 14, .bool (decide ((i : Int) < (s1.n : Int))))] ha fun a ha => ?_
  refine p_end ?_
  refine then_n ?_
  by_cases c2 : (i : Int) < (s1.n : Int)
  ·
   have hlt : i < b.length := by have := c2; omega
   obtain ⟨z, hz⟩ : ∃ z, b[i]? = some z := ⟨_, List.getElem?_eq_getElem hlt⟩
   refine c_true ha rfl (decide_eq_true c2) ?_
   refine wp_skip ?_
   refine then_n ?_
   refine wp_seq ?_
   refine wp_block ?_
   refine wp_seq ?_
   refine d_start 8 10 hS fun w hS => ?_
   refine d_run (k := 8) [(0, 17, .slice s1.A s1.n s1.c), (1, 18, iv (i : Int))] ha (.inr hS) (pk_then (pk_in (pk_then (pk_then (pk_in (pk_then (pk_body))))))) fun a ha => ?_
   refine d_pure (i := 2) (v := .pointer (some ⟨bk s1, of_ s1 + i * 3, none⟩)) ha (by decide) (v_indexR (s := s1) (el := 144) (sz := 3) (j := i) ha (iAt (op := (Op.indexAddr 117 (Operand.tmp 17) (Operand.tmp 18))) (d := some 19) (ty := 0)) rfl rfl (by kernel_rfl) (by kernel_rfl) (hA1 (by omega)) (by omega)) (.inr hS) (by kernel_rfl) (by kernel_rfl) (pk_then (pk_in (pk_then (pk_then (pk_in (pk_then (pk_body))))))) fun a ha => ?_
   refine d_val (i := 3) (v := .agg #[iv z.k, iv z.a, iv z.b]) ha (by decide) (v_loadL (v := .agg #[iv z.k, iv z.a, iv z.b]) ha (iAt (op := (Op.load 144 (Operand.tmp 19))) (d := some 20) (ty := 144)) rfl (fun w' hw => (h1 w' hw).load hz)) hS (by kernel_rfl) (by kernel_rfl) (pk_then (pk_in (pk_then (pk_then (pk_in (pk_then (pk_body))))))) fun a ha => ?_
   refine d_run (k := 4) [(4, 21, .slice s2.A s2.n s2.c), (5, 22, iv (i : Int))] ha (.inr hS) (pk_then (pk_in (pk_then (pk_then (pk_in (pk_then (pk_body))))))) fun a ha => ?_
   refine d_pure (i := 6) (v := .pointer (some ⟨bk s2, of_ s2 + i * 3, none⟩)) ha (by decide) (v_indexR (s := s2) (el := 144) (sz := 3) (j := i) ha (iAt (op := (Op.indexAddr 117 (Operand.tmp 21) (Operand.tmp 22))) (d := some 23) (ty := 0)) rfl rfl (by kernel_rfl) (by kernel_rfl) (hA2 (by omega)) (by omega)) (.inr hS) (by kernel_rfl) (by kernel_rfl) (pk_then (pk_in (pk_then (pk_then (pk_in (pk_then (pk_body))))))) fun a ha => ?_
   refine d_val (i := 7) (v := .agg #[iv z.k, iv z.a, iv z.b]) ha (by decide) (v_loadL (v := .agg #[iv z.k, iv z.a, iv z.b]) ha (iAt (op := (Op.load 144 (Operand.tmp 23))) (d := some 24) (ty := 144)) rfl (fun w' hw => (h2 w' hw).load hz)) hS (by kernel_rfl) (by kernel_rfl) (pk_then (pk_in (pk_then (pk_then (pk_in (pk_then (pk_body))))))) fun a ha => ?_
   refine d_one (i := 8) (by kernel_rfl) (o_ret ha (by decide) (iAt (op := (Op.call { callee := (Callee.value (Operand.func 101)), args := #[(Operand.tmp 20), (Operand.tmp 24)], argTypes := #[144, 144] })) (d := some 25) (ty := 4)) rfl Try.func101 (by kernel_rfl) (eq_step hS) fun v3 w a hp4 ha => ?_)
   obtain ⟨rfl, hS⟩ := hp4
   refine ⟨.inl (by kernel_rfl), ?_⟩
   refine d_run (k := 0) [(9, 26, .bool false)] ha (.inl (by kernel_rfl)) (pk_then (pk_in (pk_then (pk_then (pk_in (pk_then (pk_body))))))) fun a ha => ?_
   refine d_end (by kernel_rfl) ?_ _
   refine then_n ?_
   refine c_false ha rfl rfl ?_
   refine wp_skip ?_
   refine in_n ?_
   refine then_n ?_
   refine p_beginL [0, 1, 2] ?_
   refine p_run [(0, 15, iv (i : Int))] ha fun a ha => ?_
   refine p_val (v := iv ((i : Int) + 1)) ha (by decide) ((v_pure (v := .int .i64 (IntKind.i64.wrap ((i : Int) + 1))) ha (iAt (op := (Op.binOp BinOp.add 3 (Operand.tmp 15) (Operand.const (Value.int IntKind.i64 1)) 3)) (d := some 16) (ty := 3)) (by kernel_rfl) (fun _ => by kernel_rfl)).as (by rw [wrap_i64 (by omega) (by omega)])) (fun a ha => ?_)
   refine p_run [(2, 5, iv ((i : Int) + 1))] ha fun a ha => ?_
   refine p_end ?_
   refine then_n ?_
   exact ⟨_, by omega, i + 1, rfl, by omega, ha.keeps [0, 1, 5] _ rfl, hS⟩
  ·
   refine c_false ha rfl (decide_eq_false c2) ?_
   refine wp_exit ?_
   refine then_x ?_
   refine then_x ?_
   refine in_x ?_
   refine then_n ?_
   refine wp_seq ?_
   refine p_beginL [0] ?_
   refine p_run [(0, 4, .bool true)] ha fun a ha => ?_
   refine p_end ?_
   refine then_n ?_
   refine wp_ret ?_
   refine end_res1 ha (by kernel_rfl) (resT (t := 4) ha rfl) ?_
   exact ⟨rfl, hS⟩
 ·
  exact absurd (by rw [hn1, hn2]) c1
theorem code50 : Try.f50.body = some (Code.seq (Code.region 0 (regOf Try.f50 0) false) (Code.seq (Code.seq (Code.region 1 (regOf Try.f50 1) false) (Code.cond (Operand.tmp 10) (Code.seq (Code.region 2 (regOf Try.f50 2) false) Code.ret) Code.skip)) (Code.seq (Code.seq (Code.region 3 (regOf Try.f50 3) false) (Code.block 0 (Code.loop (Code.seq (Code.seq (Code.region 4 (regOf Try.f50 4) false) (Code.cond (Operand.tmp 14) Code.skip (Code.exit 0))) (Code.seq (Code.block 1 (Code.seq (Code.region 6 (regOf Try.f50 6) true) (Code.cond (Operand.tmp 26) (Code.seq (Code.region 7 (regOf Try.f50 7) false) Code.ret) Code.skip))) (Code.region 5 (regOf Try.f50 5) false)))))) (Code.seq (Code.region 8 (regOf Try.f50 8) false) Code.ret)))) := by kernel_rfl
set_option maxRecDepth 20000 in
set_option maxHeartbeats 1000000 in
theorem eq_rows {w0 w : World} {Rs : List Asn} {b : List (List Stp)} {s1 s2 : Sl} {sbs1 sbs2 : List Sl} (hS : Sat w0 w Rs) (h1 : Keeps w0 Rs (fun w => RdProg w s1 sbs1 b)) (h2 : Keeps w0 Rs (fun w => RdProg w s2 sbs2 b)) (hlb : b.length ≤ 2000000) (hlen : ∀ z ∈ b, z.length ≤ 2000000) :
  Calls Try.prog 50 #[.slice s1.A s1.n s1.c, .slice s2.A s2.n s2.c] w (Ret fun r w' => r = .bool true ∧ Sat w0 w' Rs) := by
 have hn1 := (h1 w hS).len
 have hn2 := (h2 w hS).len
 have hA1 := (h1 w hS).A
 have hA2 := (h2 w hS).A
 refine enter (n := 27) Try.func50 code50 (by kernel_rfl) (Nat.le_of_ble_eq_true rfl) (fun a ha => ?_)
 replace ha : Has 27 [(0, .slice s1.A s1.n s1.c), (1, .slice s2.A s2.n s2.c)] a := ha
 refine wp_seq ?_
 refine p_beginL [0] ?_
 refine p_run [(0, 4, .bool false)] ha fun a ha => ?_
 refine p_end ?_
 refine then_n ?_
 refine wp_seq ?_
 refine wp_seq ?_
 refine p_beginL [0, 1, 2, 3, 4] ?_
 refine p_run [(0, 6, .slice s1.A s1.n s1.c), (1, 7, iv (s1.n : Int)), (2, 8, .slice s2.A s2.n s2.c), (3, 9, iv (s2.n : Int)), (4, 10, .bool (!(decide ((s1.n : Int) = (s2.n : Int)))))] ha fun a ha => ?_
 refine p_end ?_
 refine then_n ?_
 by_cases c1 : (s1.n : Int) = (s2.n : Int)
 ·
  refine c_false ha rfl (not_ff (decide_eq_true c1)) ?_
  refine wp_skip ?_
  refine then_n ?_
  refine wp_seq ?_
  refine wp_seq ?_
  refine p_beginL [0] ?_
  refine p_run [(0, 5, iv 0)] ha fun a ha => ?_
  refine p_end ?_
  refine then_n ?_
  refine wp_block ?_
  refine wp_loop_ghost (fun n_ a_ w_ => ∃ (i : Nat), n_ = b.length - i ∧ (i ≤ b.length) ∧ Has 27 [(0, .slice s1.A s1.n s1.c), (1, .slice s2.A s2.n s2.c), (5, iv (i : Int))] a_ ∧ Sat w0 w_ (Rs)) _ ⟨0, rfl, Nat.zero_le _, ha.keeps [0, 1, 5] _ rfl, hS⟩ ?_
  -- the loop's round
  rintro n_ a w ⟨i, rfl, hi, ha, hS⟩
  refine wp_seq ?_
  refine wp_seq ?_
  refine p_beginL [0, 1, 2, 3] ?_
  refine p_run [(0, 11, iv (i : Int)), (1, 12, .slice s1.A s1.n s1.c), (2, 13, iv (s1.n : Int)), (3, 14, .bool (decide ((i : Int) < (s1.n : Int))))] ha fun a ha => ?_
  refine p_end ?_
  refine then_n ?_
  by_cases c2 : (i : Int) < (s1.n : Int)
  ·
   have hlt : i < b.length := by have := c2; omega
   obtain ⟨z, hz⟩ : ∃ z, b[i]? = some z := ⟨_, List.getElem?_eq_getElem hlt⟩
   obtain ⟨sb1, _, _, hsb1⟩ := RdProg.body h1 hS hz
   obtain ⟨sb2, _, _, hsb2⟩ := RdProg.body h2 hS hz
   refine c_true ha rfl (decide_eq_true c2) ?_
   refine wp_skip ?_
   refine then_n ?_
   refine wp_seq ?_
   refine wp_block ?_
   refine wp_seq ?_
   refine d_start 8 10 hS fun w hS => ?_
   refine d_run (k := 8) [(0, 17, .slice s1.A s1.n s1.c), (1, 18, iv (i : Int))] ha (.inr hS) (pk_then (pk_in (pk_then (pk_then (pk_in (pk_then (pk_body))))))) fun a ha => ?_
   refine d_pure (i := 2) (v := .pointer (some ⟨bk s1, of_ s1 + i * 1, none⟩)) ha (by decide) (v_indexR (s := s1) (el := 117) (sz := 1) (j := i) ha (iAt (op := (Op.indexAddr 29 (Operand.tmp 17) (Operand.tmp 18))) (d := some 19) (ty := 0)) rfl rfl (by kernel_rfl) (by kernel_rfl) (hA1 (by omega)) (by omega)) (.inr hS) (by kernel_rfl) (by kernel_rfl) (pk_then (pk_in (pk_then (pk_then (pk_in (pk_then (pk_body))))))) fun a ha => ?_
   refine d_val (i := 3) (v := .slice sb1.A sb1.n sb1.c) ha (by decide) (v_loadC (v := .slice sb1.A sb1.n sb1.c) ha (iAt (op := (Op.load 117 (Operand.tmp 19))) (d := some 20) (ty := 117)) rfl (by kernel_rfl) (fun w' hw => by rw [Nat.mul_one]; exact (hsb1 w' hw).1)) hS (by kernel_rfl) (by kernel_rfl) (pk_then (pk_in (pk_then (pk_then (pk_in (pk_then (pk_body))))))) fun a ha => ?_
   refine d_run (k := 4) [(4, 21, .slice s2.A s2.n s2.c), (5, 22, iv (i : Int))] ha (.inr hS) (pk_then (pk_in (pk_then (pk_then (pk_in (pk_then (pk_body))))))) fun a ha => ?_
   refine d_pure (i := 6) (v := .pointer (some ⟨bk s2, of_ s2 + i * 1, none⟩)) ha (by decide) (v_indexR (s := s2) (el := 117) (sz := 1) (j := i) ha (iAt (op := (Op.indexAddr 29 (Operand.tmp 21) (Operand.tmp 22))) (d := some 23) (ty := 0)) rfl rfl (by kernel_rfl) (by kernel_rfl) (hA2 (by omega)) (by omega)) (.inr hS) (by kernel_rfl) (by kernel_rfl) (pk_then (pk_in (pk_then (pk_then (pk_in (pk_then (pk_body))))))) fun a ha => ?_
   refine d_val (i := 7) (v := .slice sb2.A sb2.n sb2.c) ha (by decide) (v_loadC (v := .slice sb2.A sb2.n sb2.c) ha (iAt (op := (Op.load 117 (Operand.tmp 23))) (d := some 24) (ty := 117)) rfl (by kernel_rfl) (fun w' hw => by rw [Nat.mul_one]; exact (hsb2 w' hw).1)) hS (by kernel_rfl) (by kernel_rfl) (pk_then (pk_in (pk_then (pk_then (pk_in (pk_then (pk_body))))))) fun a ha => ?_
   refine d_one (i := 8) (by kernel_rfl) (o_ret ha (by decide) (iAt (op := (Op.call { callee := (Callee.value (Operand.func 83)), args := #[(Operand.tmp 20), (Operand.tmp 24)], argTypes := #[117, 117] })) (d := some 25) (ty := 4)) rfl Try.func83 (by kernel_rfl) (eq_steps hS (fun w h => (hsb1 w h).2) (fun w h => (hsb2 w h).2) (hlen z (List.mem_of_getElem? hz))) fun v3 w a hp4 ha => ?_)
   obtain ⟨rfl, hS⟩ := hp4
   refine ⟨.inl (by kernel_rfl), ?_⟩
   refine d_run (k := 0) [(9, 26, .bool false)] ha (.inl (by kernel_rfl)) (pk_then (pk_in (pk_then (pk_then (pk_in (pk_then (pk_body))))))) fun a ha => ?_
   refine d_end (by kernel_rfl) ?_ _
   refine then_n ?_
   refine c_false ha rfl rfl ?_
   refine wp_skip ?_
   refine in_n ?_
   refine then_n ?_
   refine p_beginL [0, 1, 2] ?_
   refine p_run [(0, 15, iv (i : Int))] ha fun a ha => ?_
   refine p_val (v := iv ((i : Int) + 1)) ha (by decide) ((v_pure (v := .int .i64 (IntKind.i64.wrap ((i : Int) + 1))) ha (iAt (op := (Op.binOp BinOp.add 3 (Operand.tmp 15) (Operand.const (Value.int IntKind.i64 1)) 3)) (d := some 16) (ty := 3)) (by kernel_rfl) (fun _ => by kernel_rfl)).as (by rw [wrap_i64 (by omega) (by omega)])) (fun a ha => ?_)
   refine p_run [(2, 5, iv ((i : Int) + 1))] ha fun a ha => ?_
   refine p_end ?_
   refine then_n ?_
   exact ⟨_, by omega, i + 1, rfl, by omega, ha.keeps [0, 1, 5] _ rfl, hS⟩
  ·
   refine c_false ha rfl (decide_eq_false c2) ?_
   refine wp_exit ?_
   refine then_x ?_
   refine then_x ?_
   refine in_x ?_
   refine then_n ?_
   refine wp_seq ?_
   refine p_beginL [0] ?_
   refine p_run [(0, 4, .bool true)] ha fun a ha => ?_
   refine p_end ?_
   refine then_n ?_
   refine wp_ret ?_
   refine end_res1 ha (by kernel_rfl) (resT (t := 4) ha rfl) ?_
   exact ⟨rfl, hS⟩
 ·
  exact absurd (by rw [hn1, hn2]) c1
theorem code18 : Try.f18.body = some (Code.seq (Code.region 0 (regOf Try.f18 0) false) (Code.seq (Code.seq (Code.region 1 (regOf Try.f18 1) false) (Code.cond (Operand.tmp 10) (Code.seq (Code.region 2 (regOf Try.f18 2) false) Code.ret) Code.skip)) (Code.seq (Code.region 3 (regOf Try.f18 3) false) Code.ret))) := by kernel_rfl
set_option maxRecDepth 20000 in
set_option maxHeartbeats 1000000 in
theorem eq_prog {w0 w : World} {Rs : List Asn} {b : List (List Stp)} {s1 s2 : Sl} {sbs1 sbs2 : List Sl} (hS : Sat w0 w Rs) (h1 : Keeps w0 Rs (fun w => RdProg w s1 sbs1 b)) (h2 : Keeps w0 Rs (fun w => RdProg w s2 sbs2 b)) (hlb : b.length ≤ 2000000) (hlen : ∀ z ∈ b, z.length ≤ 2000000) :
  Calls Try.prog 18 #[.agg #[.slice s1.A s1.n s1.c], .agg #[.slice s2.A s2.n s2.c]] w (Ret fun r w' => r = .bool true ∧ Sat w0 w' Rs) := by
 refine enter (n := 11) Try.func18 code18 (by kernel_rfl) (Nat.le_of_ble_eq_true rfl) (fun a ha => ?_)
 replace ha : Has 11 [(0, .agg #[.slice s1.A s1.n s1.c]), (1, .agg #[.slice s2.A s2.n s2.c])] a := ha
 refine wp_seq ?_
 refine p_beginL [0, 1, 2] ?_
 refine p_op (o_new (cs := [.slice s1.A s1.n s1.c]) (T := 31) (fun b => .pointer (some ⟨b, 0, none⟩)) ha (by decide) (iAt (op := (Op.box 31 (Operand.tmp 0))) (d := some 2) (ty := 0)) (by kernel_rfl) hS (fun _ => by kernel_rfl) fun b1 w a hb2 hS ha => ?_)
 refine p_op (o_new (cs := [.slice s2.A s2.n s2.c]) (T := 31) (fun b => .pointer (some ⟨b, 0, none⟩)) ha (by decide) (iAt (op := (Op.box 31 (Operand.tmp 1))) (d := some 3) (ty := 0)) (by kernel_rfl) hS (fun _ => by kernel_rfl) fun b3 w a hb4 hS ha => ?_)
 refine p_run [(2, 4, .bool false)] ha fun a ha => ?_
 refine p_end ?_
 refine then_n ?_
 refine wp_seq ?_
 refine wp_seq ?_
 refine p_beginL [0, 1, 2, 3, 4, 5] ?_
 refine p_run [(0, 5, ptr b1 0)] ha fun a ha => ?_
 refine p_ld (d := 6) (b := b1) (j := 0) ha (hS.blk 1 rfl) rfl fun a ha => ?_
 refine p_run [(2, 7, ptr b3 0)] ha fun a ha => ?_
 refine p_ld (d := 8) (b := b3) (j := 0) ha (hS.blk 0 rfl) rfl fun a ha => ?_
 refine p_op (o_ret ha (by decide) (iAt (op := (Op.call { callee := (Callee.value (Operand.func 50)), args := #[(Operand.tmp 6), (Operand.tmp 8)], argTypes := #[29, 29] })) (d := some 9) (ty := 4)) rfl Try.func50 (by kernel_rfl) (eq_rows hS (h1.more [_, _]) (h2.more [_, _]) hlb hlen) fun v5 w a hp6 ha => ?_)
 obtain ⟨rfl, hS⟩ := hp6
 refine p_run [(5, 10, .bool false)] ha fun a ha => ?_
 refine p_end ?_
 refine then_n ?_
 refine c_false ha rfl rfl ?_
 refine wp_skip ?_
 refine then_n ?_
 refine wp_seq ?_
 refine p_beginL [0] ?_
 refine p_run [(0, 4, .bool true)] ha fun a ha => ?_
 refine p_end ?_
 refine then_n ?_
 refine wp_ret ?_
 refine end_res1 ha (by kernel_rfl) (resT (t := 4) ha rfl) ?_
 exact ⟨rfl, Sat.rest [_, _] hS⟩
end Go.Proofs.Ytdbbafepjgnmeaa.G
end
section
namespace Go.Proofs.Ytdbbafepjgnmeaa.G
open Go.RowKit Go.Proofs.Ytdbbafepjgnmeaa.SX Go.Proofs.YtdbbafepjgnmeaaW.PrintWords Go.Proofs.YtdbbafepjgnmeaaW.PrintLast Go.Proofs.YtdbbafepjgnmeaaW.PrintMore
set_option linter.unusedVariables false
set_option linter.unusedSimpArgs false
abbrev rn (l : List (List ST)) (f arg fuel : Int) : RunR := runS (PL l) 0 f arg fuel
abbrev MO (b : Nat) (pv : Sl) (fuel made shared depth deepest : Int) (tr ow ca pa re : Sl) (bp : Nat) (k v : Int) : Asn := SX.blk b [.slice pv.A pv.n pv.c, .int .i64 fuel, .int .i64 made, .int .i64 shared, .int .i64 depth, .int .i64 deepest, .slice tr.A tr.n tr.c, .slice ow.A ow.n ow.c, .slice ca.A ca.n ca.c, .slice pa.A pa.n pa.c, .slice re.A re.n re.c, .map (some bp), .int .i64 k, .int .i64 v, .slice tr.A tr.n tr.c, .int .i64 made] 73
section
variable {w0 w : World} {Rs : List Asn} {s : Sl} {l : List (List ST)} {f arg fuel shared : Int}
theorem ranFrom_sat (hS : Sat w0 w Rs) (hr : RdP w s l) (ha : askB l f arg fuel = true) :
  Calls Try.prog 73 #[.agg #[.slice s.A s.n s.c], .int .i64 f, .int .i64 arg, .int .i64 fuel, .int .i64 shared] w (Ret fun r w' => ∃ bm : Nat, r = .tuple #[.pointer (some ⟨bm, 0, none⟩), .bool true] ∧ Sat w0 w' (mchO bm s fuel (runS (PL l) shared f arg fuel) :: Rs)) := by
 have key : ∀ r w', (∃ bm : Nat, r = Value.tuple #[.pointer (some ⟨bm, 0, none⟩), .bool true] ∧ Sat w w' [mchO bm s fuel (runS (PL l) shared f arg fuel)]) → ∃ bm : Nat, r = Value.tuple #[.pointer (some ⟨bm, 0, none⟩), .bool true] ∧ Sat w0 w' (mchO bm s fuel (runS (PL l) shared f arg fuel) :: Rs) := by
  rintro r w' ⟨bm, rfl, h⟩
  exact ⟨bm, rfl, hS.comp h⟩
 cases hres : callS (PL l) fuel 8 (MS.start shared) f arg none 0 false with
 | done m1 f1 o1 =>
  refine (ranFrom_done w s l f arg fuel shared hr.len hr.rd hr.le ha m1 f1 o1 hres).mono fun e w' h => ?_
  cases e with
  | returned r => exact key r w' h
  | _ => exact h.elim
 | spent m1 =>
  refine (ranFrom_spent w s l f arg fuel shared hr.len hr.rd hr.le ha m1 hres).mono fun e w' h => ?_
  cases e with
  | returned r => exact key r w' h
  | _ => exact h.elim
theorem ranFrom_no (hS : Sat w0 w Rs) (hr : RdP w s l) (ha : askB l f arg fuel = false) :
  Calls Try.prog 73 #[.agg #[.slice s.A s.n s.c], .int .i64 f, .int .i64 arg, .int .i64 fuel, .int .i64 shared] w (Ret fun r w' => r = .tuple #[.pointer none, .bool false] ∧ Sat w0 w' Rs) := by
 refine (ranFrom_bad w s l f arg fuel shared hr.len hr.rd hr.le ha).mono fun e w' h => ?_
 cases e with
 | returned r => exact ⟨h.1, hS.comp (Ps := []) h.2⟩
 | _ => exact h.elim
theorem lift0 {F : Nat} {args : Array Value} {φ : Value → Prop} (hS : Sat w0 w Rs) (h : Calls Try.prog F args w (Ret fun r w' => φ r ∧ Sat w w' [])) : Calls Try.prog F args w (Ret fun r w' => φ r ∧ Sat w0 w' Rs) := by
 refine h.mono fun e w' h => ?_
 cases e with
 | returned r => exact ⟨h.1, hS.comp (Ps := []) h.2⟩
 | _ => exact h.elim
theorem ask_parts (ha : askB l f arg fuel = true) : ProgOk (PL l) ∧ (0 ≤ f ∧ f < (PL l).length) ∧ (-32768 ≤ arg ∧ arg ≤ 32767) ∧ (0 ≤ fuel ∧ fuel ≤ 200) := by
 simp only [askB, Bool.and_eq_true] at ha
 obtain ⟨⟨⟨h1, h2⟩, h3⟩, h4⟩ := ha
 simp only [inB, numB, Bool.and_eq_true, decide_eq_true_eq] at h2 h3 h4
 exact ⟨progOk_of h1, by rw [PL_length]; omega, h3, h4⟩
theorem run_sat (hS : Sat w0 w Rs) (hr : RdP w s l) (ha : askB l f arg fuel = true) :
  Calls Try.prog 47 #[.agg #[.slice s.A s.n s.c], .int .i64 f, .int .i64 arg, .int .i64 fuel] w (Ret fun r w' => ∃ tr : Sl, r = oG (rn l f arg fuel).k (rn l f arg fuel).v tr (rn l f arg fuel).m.made ∧ Sat w0 w' (rE tr (rn l f arg fuel).m.trace :: Rs)) := by
 obtain ⟨hP, h1, h2, h3⟩ := ask_parts ha
 obtain ⟨sbs, hPr⟩ := rdProg_of (c := s.c) hr.rd
 rw [← hr.len] at hPr
 refine (q_run hP (Sat.start w) h1.1 h1.2 h2 h3 (hPr.keeps [])).mono fun e w' h => ?_
 cases e with
 | returned r =>
  obtain ⟨tr, h4, h5⟩ := h
  exact ⟨tr, h4, hS.comp h5⟩
 | _ => exact h.elim
theorem ask_sat (hS : Sat w0 w Rs) (hr : RdP w s l) (hf : Fits l) :
  Calls Try.prog 46 #[.agg #[.slice s.A s.n s.c], .int .i64 f, .int .i64 arg, .int .i64 fuel] w (Ret fun r w' => r = .bool (askB l f arg fuel) ∧ Sat w0 w' Rs) := by
 obtain ⟨sbs, hPr⟩ := rdProg_of (c := s.c) hr.rd
 rw [← hr.len] at hPr
 refine (q_ask (Sat.start w) (by rw [PL_length]; have := hf.len; omega) (hPr.keeps [])).mono fun e w' h => ?_
 cases e with
 | returned r =>
  refine ⟨?_, hS.comp (Ps := []) h.2⟩
  rw [h.1, progQ_PL, hr.len]
  rfl
 | _ => exact h.elim
theorem eqP_sat {t : Sl} (hS : Sat w0 w Rs) (hr : RdP w s l) (ht : RdP w t l) (hf : Fits l) :
    Calls Try.prog 18 #[.agg #[.slice s.A s.n s.c], .agg #[.slice t.A t.n t.c]] w (Ret fun r w' => r = .bool true ∧ Sat w0 w' Rs) := by
  obtain ⟨sbs1, h1⟩ := rdProg_of (c := s.c) hr.rd
  obtain ⟨sbs2, h2⟩ := rdProg_of (c := t.c) ht.rd
  rw [← hr.len] at h1
  rw [← ht.len] at h2
  refine (eq_prog (Sat.start w) (h1.keeps []) (h2.keeps []) (by rw [PL_length]; have := hf.len; omega) (fun z hz => ?_)).mono fun e w' h => ?_
  · obtain ⟨b, hb, rfl⟩ := List.mem_map.1 hz
    rw [List.length_map]
    have := hf.each b hb
    omega
  · cases e with
    | returned r => exact ⟨h.1, hS.comp (Ps := []) h.2⟩
    | _ => exact h.elim
end
end Go.Proofs.Ytdbbafepjgnmeaa.G
end
section
namespace Go.Proofs.Ytdbbafepjgnmeaa.G
open Go.RowKit Go.Proofs.Ytdbbafepjgnmeaa.SX Go.Proofs.YtdbbafepjgnmeaaW.PrintWords Go.Proofs.YtdbbafepjgnmeaaW.PrintLast Go.Proofs.YtdbbafepjgnmeaaW.PrintMore
set_option linter.unusedVariables false
set_option linter.unusedSimpArgs false
theorem code49 : Try.f49.body = some (Code.seq (Code.region 0 (regOf Try.f49 0) false) (Code.seq (Code.region 1 (regOf Try.f49 1) false) Code.ret)) := by kernel_rfl
set_option maxRecDepth 20000 in
set_option maxHeartbeats 1000000 in
theorem ran_sat0 {w0 : World} {s : Sl} {l : List (List ST)} {f arg fuel : Int} (hr : RdP w0 s l) (hask : askB l f arg fuel = true) :
  Calls Try.prog 49 #[.agg #[.slice s.A s.n s.c], iv f, iv arg, iv fuel] w0 (Ret fun r w' => ∃ bm : Nat, r = .tuple #[.pointer (some ⟨bm, 0, none⟩), .bool true] ∧ Sat w0 w' [mchO bm s fuel (rn l f arg fuel)]) := by
 have hS : Sat w0 w0 [] := Sat.start w0
 refine enter (n := 17) Try.func49 code49 (by kernel_rfl) (Nat.le_of_ble_eq_true rfl) (fun a ha => ?_)
 replace ha : Has 17 [(0, .agg #[.slice s.A s.n s.c]), (1, iv f), (2, iv arg), (3, iv fuel)] a := ha
 refine wp_seq ?_
 refine p_beginL [0, 1, 2] ?_
 refine p_op (o_new (cs := [.slice s.A s.n s.c]) (T := 31) (fun b => .pointer (some ⟨b, 0, none⟩)) ha (by decide) (iAt (op := (Op.box 31 (Operand.tmp 0))) (d := some 4) (ty := 0)) (by kernel_rfl) hS (fun _ => by kernel_rfl) fun b1 w a hb2 hS ha => ?_)
 refine p_run [(1, 8, .pointer none), (2, 9, .bool false)] ha fun a ha => ?_
 refine p_end ?_
 refine then_n ?_
 refine wp_seq ?_
 refine p_beginL [0, 1, 2, 3, 4, 5, 6, 7, 8] ?_
 refine p_val ha (by decide) (v_loadW ha (iAt (op := (Op.load 31 (Operand.tmp 4))) (d := some 10) (ty := 31)) rfl (by kernel_rfl) (fun _ hw => by rw [hw]; exact hS.blk 0 rfl)) (fun a ha => ?_)
 refine p_run [(1, 11, iv f), (2, 12, iv arg), (3, 13, iv fuel)] ha fun a ha => ?_
 refine p_op (o_ret ha (by decide) (iAt (op := (Op.call { callee := (Callee.value (Operand.func 73)), args := #[(Operand.tmp 10), (Operand.tmp 11), (Operand.tmp 12), (Operand.tmp 13), (Operand.const (Value.int IntKind.i64 0))], argTypes := #[31, 3, 3, 3, 3] })) (d := some 14) (ty := 66)) rfl Try.func73 (by kernel_rfl) (ranFrom_sat hS (hr.sat hS) hask) fun v3 w a hp4 ha => ?_)
 obtain ⟨bm1, rfl, hS⟩ := hp4
 refine p_run [(5, 15, ptr bm1 0), (6, 16, .bool true), (7, 8, ptr bm1 0), (8, 9, .bool true)] ha fun a ha => ?_
 refine p_end ?_
 refine then_n ?_
 refine wp_ret ?_
 refine end_res2 ha (by kernel_rfl) (resT (t := 8) ha rfl) (resT (t := 9) ha rfl) ?_
 exact ⟨bm1, rfl, hS.pickN 2 [0] (by decide) rfl⟩
set_option maxRecDepth 20000 in
set_option maxHeartbeats 1000000 in
theorem ran_no0 {w0 : World} {s : Sl} {l : List (List ST)} {f arg fuel : Int} (hr : RdP w0 s l) (hask : askB l f arg fuel = false) :
  Calls Try.prog 49 #[.agg #[.slice s.A s.n s.c], iv f, iv arg, iv fuel] w0 (Ret fun r w' => r = .tuple #[.pointer none, .bool false] ∧ Sat w0 w' []) := by
 have hS : Sat w0 w0 [] := Sat.start w0
 refine enter (n := 17) Try.func49 code49 (by kernel_rfl) (Nat.le_of_ble_eq_true rfl) (fun a ha => ?_)
 replace ha : Has 17 [(0, .agg #[.slice s.A s.n s.c]), (1, iv f), (2, iv arg), (3, iv fuel)] a := ha
 refine wp_seq ?_
 refine p_beginL [0, 1, 2] ?_
 refine p_op (o_new (cs := [.slice s.A s.n s.c]) (T := 31) (fun b => .pointer (some ⟨b, 0, none⟩)) ha (by decide) (iAt (op := (Op.box 31 (Operand.tmp 0))) (d := some 4) (ty := 0)) (by kernel_rfl) hS (fun _ => by kernel_rfl) fun b1 w a hb2 hS ha => ?_)
 refine p_run [(1, 8, .pointer none), (2, 9, .bool false)] ha fun a ha => ?_
 refine p_end ?_
 refine then_n ?_
 refine wp_seq ?_
 refine p_beginL [0, 1, 2, 3, 4, 5, 6, 7, 8] ?_
 refine p_val ha (by decide) (v_loadW ha (iAt (op := (Op.load 31 (Operand.tmp 4))) (d := some 10) (ty := 31)) rfl (by kernel_rfl) (fun _ hw => by rw [hw]; exact hS.blk 0 rfl)) (fun a ha => ?_)
 refine p_run [(1, 11, iv f), (2, 12, iv arg), (3, 13, iv fuel)] ha fun a ha => ?_
 refine p_op (o_ret ha (by decide) (iAt (op := (Op.call { callee := (Callee.value (Operand.func 73)), args := #[(Operand.tmp 10), (Operand.tmp 11), (Operand.tmp 12), (Operand.tmp 13), (Operand.const (Value.int IntKind.i64 0))], argTypes := #[31, 3, 3, 3, 3] })) (d := some 14) (ty := 66)) rfl Try.func73 (by kernel_rfl) (ranFrom_no hS (hr.sat hS) hask) fun v3 w a hp4 ha => ?_)
 obtain ⟨rfl, hS⟩ := hp4
 refine p_run [(5, 15, .pointer none), (6, 16, .bool false), (7, 8, .pointer none), (8, 9, .bool false)] ha fun a ha => ?_
 refine p_end ?_
 refine then_n ?_
 refine wp_ret ?_
 refine end_res2 ha (by kernel_rfl) (resT (t := 8) ha rfl) (resT (t := 9) ha rfl) ?_
 exact ⟨rfl, Sat.rest [_] hS⟩
theorem ran_sat {w0 w : World} {Rs : List Asn} {s : Sl} {l : List (List ST)} {f arg fuel : Int} (hS : Sat w0 w Rs) (hr : RdP w s l) (hask : askB l f arg fuel = true) :
  Calls Try.prog 49 #[.agg #[.slice s.A s.n s.c], iv f, iv arg, iv fuel] w (Ret fun r w' => ∃ bm : Nat, r = .tuple #[.pointer (some ⟨bm, 0, none⟩), .bool true] ∧ Sat w0 w' (mchO bm s fuel (rn l f arg fuel) :: Rs)) :=
 (ran_sat0 hr hask).mono fun e w' h => by
  cases e with
  | returned r => obtain ⟨bm, h1, h2⟩ := h; exact ⟨bm, h1, hS.comp h2⟩
  | _ => exact h.elim
theorem ran_no {w0 w : World} {Rs : List Asn} {s : Sl} {l : List (List ST)} {f arg fuel : Int} (hS : Sat w0 w Rs) (hr : RdP w s l) (hask : askB l f arg fuel = false) :
  Calls Try.prog 49 #[.agg #[.slice s.A s.n s.c], iv f, iv arg, iv fuel] w (Ret fun r w' => r = .tuple #[.pointer none, .bool false] ∧ Sat w0 w' Rs) := lift0 hS (ran_no0 hr hask)
end Go.Proofs.Ytdbbafepjgnmeaa.G
end
section
namespace Go.Proofs.Ytdbbafepjgnmeaa.SX
open Go.RowKit Go.Proofs.Ytdbbafepjgnmeaa.G Go.Proofs.YtdbbafepjgnmeaaW.PrintWords Go.Proofs.YtdbbafepjgnmeaaW.PrintLast Go.Proofs.YtdbbafepjgnmeaaW.PrintMore
set_option linter.unusedVariables false
set_option linter.unusedSimpArgs false
def R3.m : R3 → MS
 | .spent m => m
 | .done m _ _ => m
def RB.m : RB → MS
 | .spent m => m
 | .go m _ _ _ => m
end Go.Proofs.Ytdbbafepjgnmeaa.SX
end
section
namespace Go.Proofs.Ytdbbafepjgnmeaa.G
open Go.RowKit Go.Proofs.Ytdbbafepjgnmeaa.SX Go.Proofs.YtdbbafepjgnmeaaW.PrintWords Go.Proofs.YtdbbafepjgnmeaaW.PrintLast Go.Proofs.YtdbbafepjgnmeaaW.PrintMore
set_option linter.unusedVariables false
set_option linter.unusedSimpArgs false
def failB (k : Int) : Bool := !(decide (k = 1)) && !(decide (k = 3))
def rt (l : List (List ST)) (f arg fuel : Int) (j : Nat) : RunR := if j = 0 then rn l f arg fuel else rn l f (w16 (arg + (j : Int))) fuel
theorem rt_next {l : List (List ST)} {f arg fuel m : Int} {k : Nat} (hm : m = (k : Int) + 1) : rn l f (w16 (arg + m)) fuel = rt l f arg fuel (k + 1) := by unfold rt; rw [if_neg (by omega), hm]; rfl
def lastK (g : Nat → Bool) : Nat := ((List.range 19).find? fun j => !g j).getD 19
theorem last_eq {g : Nat → Bool} {k : Nat} (h0 : ∀ j, j < k → g j = true) (h1 : k ≤ 19) (h2 : g k = false ∨ k = 19) : lastK g = k := by
  unfold lastK
  by_cases hk : k = 19
  · rw [List.find?_range_eq_none.2 (fun j hj => by rw [h0 j (by omega)]; rfl), hk]; rfl
  · have h3 : g k = false := h2.resolve_right hk
    rw [List.find?_range_eq_some.2 ⟨by rw [h3]; rfl, List.mem_range.2 (by omega), fun j hj => by rw [h0 j hj]; rfl⟩]; rfl
def tryK (l : List (List ST)) (f arg fuel : Int) : Nat := lastK fun j => failB (rt l f arg fuel j).k
def triesP (l : List (List ST)) (f arg fuel : Int) : Int × Bool := if askB l f arg fuel = true then (if (rt l f arg fuel (tryK l f arg fuel)).k = 1 then ((tryK l f arg fuel : Int) + 1, true) else (0, false)) else (0, false)
theorem w16_le (x : Int) : -32768 ≤ w16 x ∧ w16 x ≤ 32767 := by unfold w16; rw [wrap_i16]; omega
theorem ask_w16 {l : List (List ST)} {f arg fuel y : Int} (h : askB l f arg fuel = true) : askB l f (w16 y) fuel = true := by
 simp only [askB, Bool.and_eq_true] at h ⊢
 exact ⟨⟨h.1.1, by have := w16_le y; simp only [numB, Bool.and_eq_true, decide_eq_true_eq]; omega⟩, h.2⟩
theorem rep_at (k : Nat) : (List.replicate 19 (0 : Int)).getD k 0 = 0 := by rw [List.getD_eq_getElem?_getD, List.getElem?_replicate]; split <;> rfl
theorem rep_next (k : Nat) : List.replicate k (0 : Int) ++ [0] = List.replicate (k + 1) 0 := by rw [List.replicate_succ']
theorem fail_next {l : List (List ST)} {f arg fuel : Int} {R : RunR} {k : Nat} (hR : R = rt l f arg fuel k) (hno : ∀ j : Nat, j < k → failB (rt l f arg fuel j).k = true) (h : failB R.k = true) : ∀ j : Nat, j < k + 1 → failB (rt l f arg fuel j).k = true := by
 intro j hj
 by_cases he : j = k
 · subst he; rw [← hR]; exact h
 · exact hno j (by omega)
theorem code89 : Try.f89.body = some (Code.seq (Code.region 0 (regOf Try.f89 0) false) (Code.seq (Code.region 1 (regOf Try.f89 1) false) Code.ret)) := by kernel_rfl
set_option maxRecDepth 20000 in
set_option maxHeartbeats 1000000 in
theorem wrapped_sat {w0 w : World} {Rs : List Asn} {x : Int} (hS : Sat w0 w (Rs)) :
  Calls Try.prog 89 #[iv x] w (Ret fun r w' => r = .int .i64 (w16 x) ∧ Sat w0 w' (Rs)) := by
 refine enter (n := 6) Try.func89 code89 (by kernel_rfl) (Nat.le_of_ble_eq_true rfl) (fun a ha => ?_)
 replace ha : Has 6 [(0, iv x)] a := ha
 refine wp_seq ?_
 refine p_beginL [0] ?_
 refine p_run [(0, 2, iv 0)] ha fun a ha => ?_
 refine p_end ?_
 refine then_n ?_
 refine wp_seq ?_
 refine p_beginL [0, 1, 2, 3] ?_
 refine p_run [(0, 3, iv x), (1, 4, .int .i16 (IntKind.i16.wrap x))] ha fun a ha => ?_
 refine p_val (v := iv (IntKind.i16.wrap x)) ha (by decide) ((v_pure (v := .int .i64 (IntKind.i64.wrap (IntKind.i16.wrap x))) ha (iAt (op := (Op.convert 149 3 (Operand.tmp 4))) (d := some 5) (ty := 3)) (by kernel_rfl) (fun _ => by kernel_rfl)).as (by rw [conv16])) (fun a ha => ?_)
 refine p_run [(3, 2, iv (IntKind.i16.wrap x))] ha fun a ha => ?_
 refine p_end ?_
 refine then_n ?_
 refine wp_ret ?_
 refine end_res1 ha (by kernel_rfl) (resT (t := 2) ha rfl) ?_
 replace hS : Sat w0 w (Rs) := hS
 exact ⟨rfl, hS⟩
theorem code102 : Try.f102.body = some (Code.seq (Code.region 0 (regOf Try.f102 0) false) (Code.seq (Code.region 1 (regOf Try.f102 1) false) Code.ret)) := by kernel_rfl
set_option maxRecDepth 20000 in
set_option maxHeartbeats 1000000 in
theorem pol_sat {w0 w : World} {Rs : List Asn}  (hS : Sat w0 w (Rs)) :
  Calls Try.prog 102 #[.agg #[iv 20, iv 0, iv 1, iv 0]] w (Ret fun r w' => r = .bool true ∧ Sat w0 w' (Rs)) := by
 refine enter (n := 21) Try.func102 code102 (by kernel_rfl) (Nat.le_of_ble_eq_true rfl) (fun a ha => ?_)
 replace ha : Has 21 [(0, .agg #[iv 20, iv 0, iv 1, iv 0])] a := ha
 refine wp_seq ?_
 refine p_beginL [0, 1] ?_
 refine p_op (o_new (cs := [iv 20, iv 0, iv 1, iv 0]) (T := 86) (fun b => .pointer (some ⟨b, 0, none⟩)) ha (by decide) (iAt (op := (Op.box 86 (Operand.tmp 0))) (d := some 1) (ty := 0)) (by kernel_rfl) hS (fun _ => by kernel_rfl) fun b1 w a hb2 hS ha => ?_)
 refine p_run [(1, 2, .bool false)] ha fun a ha => ?_
 refine p_end ?_
 refine then_n ?_
 refine wp_seq ?_
 refine p_beginL [0, 1, 2, 3, 4, 5, 6, 7, 8, 9, 10, 11, 12, 13, 14, 15, 16, 17, 18] ?_
 refine p_run [(0, 3, ptr b1 0)] ha fun a ha => ?_
 refine p_ld (d := 4) (b := b1) (j := 0) ha (hS.blk 0 rfl) rfl fun a ha => ?_
 refine p_op (o_ret ha (by decide) (iAt (op := (Op.call { callee := (Callee.value (Operand.func 58)), args := #[(Operand.tmp 4), (Operand.const (Value.int IntKind.i64 1)), (Operand.const (Value.int IntKind.i64 20))], argTypes := #[3, 3, 3] })) (d := some 5) (ty := 4)) rfl Try.func58 (by kernel_rfl) (in_sat hS _ _ _) fun v3 w a hp4 ha => ?_)
 obtain ⟨rfl, hS⟩ := hp4
 replace ha := ha.turn 5 (.bool true) rfl rfl
 refine p_run [(3, 6, .bool true), (4, 7, ptr b1 1)] ha fun a ha => ?_
 refine p_ld (d := 8) (b := b1) (j := 1) ha (hS.blk 0 rfl) rfl fun a ha => ?_
 refine p_op (o_ret ha (by decide) (AtG.here (gd := 6) ⟨(by kernel_rfl : ((regOf Try.f102 1)[6]?).map spec = some ((Op.call { callee := (Callee.value (Operand.func 58)), args := #[(Operand.tmp 8), (Operand.const (Value.int IntKind.i64 0)), (Operand.const (Value.int IntKind.i64 10000))], argTypes := #[3, 3, 3] }), some 9, 4, some (3, true))), by kernel_rfl⟩ ha rfl) rfl Try.func58 (by kernel_rfl) (in_sat hS _ _ _) fun v5 w a hp6 ha => ?_)
 obtain ⟨rfl, hS⟩ := hp6
 replace ha := ha.turn 9 (.bool true) rfl rfl
 refine p_run [(7, 10, .bool true), (8, 11, .bool true), (9, 12, ptr b1 3)] ha fun a ha => ?_
 refine p_ld (d := 13) (b := b1) (j := 3) ha (hS.blk 0 rfl) rfl fun a ha => ?_
 refine p_op (o_ret ha (by decide) (AtG.here (gd := 11) ⟨(by kernel_rfl : ((regOf Try.f102 1)[11]?).map spec = some ((Op.call { callee := (Callee.value (Operand.func 58)), args := #[(Operand.tmp 13), (Operand.const (Value.int IntKind.i64 0)), (Operand.const (Value.int IntKind.i64 10000))], argTypes := #[3, 3, 3] }), some 14, 4, some (8, true))), by kernel_rfl⟩ ha rfl) rfl Try.func58 (by kernel_rfl) (in_sat hS _ _ _) fun v7 w a hp8 ha => ?_)
 obtain ⟨rfl, hS⟩ := hp8
 replace ha := ha.turn 14 (.bool true) rfl rfl
 refine p_run [(12, 15, .bool true), (13, 16, .bool true), (14, 17, ptr b1 2)] ha fun a ha => ?_
 refine p_ld (d := 18) (b := b1) (j := 2) ha (hS.blk 0 rfl) rfl fun a ha => ?_
 refine p_op (o_ret ha (by decide) (AtG.here (gd := 16) ⟨(by kernel_rfl : ((regOf Try.f102 1)[16]?).map spec = some ((Op.call { callee := (Callee.value (Operand.func 58)), args := #[(Operand.tmp 18), (Operand.const (Value.int IntKind.i64 1)), (Operand.const (Value.int IntKind.i64 6))], argTypes := #[3, 3, 3] }), some 19, 4, some (13, true))), by kernel_rfl⟩ ha rfl) rfl Try.func58 (by kernel_rfl) (in_sat hS _ _ _) fun v9 w a hp10 ha => ?_)
 obtain ⟨rfl, hS⟩ := hp10
 replace ha := ha.turn 19 (.bool true) rfl rfl
 refine p_run [(17, 20, .bool true), (18, 2, .bool true)] ha fun a ha => ?_
 refine p_end ?_
 replace ha := ha.as [(2, .bool true)] rfl
 refine then_n ?_
 refine wp_ret ?_
 refine end_res1 ha (by kernel_rfl) (resT (t := 2) ha rfl) ?_
 replace hS : Sat w0 w (Rs) := hS.pickN 1 [] (by decide) rfl
 exact ⟨rfl, hS⟩
theorem code88 : Try.f88.body = some (Code.seq (Code.region 0 (regOf Try.f88 0) false) (Code.seq (Code.region 1 (regOf Try.f88 1) false) Code.ret)) := by kernel_rfl
set_option maxRecDepth 20000 in
set_option maxHeartbeats 1000000 in
theorem fails_sat {w0 w : World} {Rs : List Asn} {b bp : Nat} {pv tr ow ca pa re : Sl} {fuel made shared depth deepest k v : Int} (hS : Sat w0 w ((MO b pv fuel made shared depth deepest tr ow ca pa re bp k v) :: Rs)) :
  Calls Try.prog 88 #[ptr b 0] w (Ret fun r w' => r = .bool (failB k) ∧ Sat w0 w' ((MO b pv fuel made shared depth deepest tr ow ca pa re bp k v) :: Rs)) := by
 refine enter (n := 17) Try.func88 code88 (by kernel_rfl) (Nat.le_of_ble_eq_true rfl) (fun a ha => ?_)
 replace ha : Has 17 [(0, ptr b 0)] a := ha
 refine wp_seq ?_
 refine p_beginL [0] ?_
 refine p_run [(0, 2, .bool false)] ha fun a ha => ?_
 refine p_end ?_
 refine then_n ?_
 refine wp_seq ?_
 refine p_beginL [0, 1, 2, 3, 4, 5, 6, 7, 8, 9, 10, 11, 12, 13, 14] ?_
 refine p_run [(0, 3, ptr b 0), (1, 4, ptr b 0), (2, 5, ptr b 12), (3, 6, ptr b 12)] ha fun a ha => ?_
 refine p_ld (d := 7) (b := b) (j := 12) ha (hS.blk 0 rfl) rfl fun a ha => ?_
 refine p_run [(5, 8, .bool (!(decide (k = 1)))), (6, 9, .bool (!(decide (k = 1))))] ha fun a ha => ?_
 by_cases c1 : k = 1
 ·
  replace ha := ha.turn 8 (.bool false) rfl (congrArg Value.bool (not_ff (decide_eq_true c1)))
  replace ha := ha.turn 9 (.bool false) rfl (congrArg Value.bool (not_ff (decide_eq_true c1)))
  refine p_run [(7, 10, undef), (8, 11, undef), (9, 12, undef), (10, 13, undef), (11, 14, undef), (12, 15, undef), (13, 16, .bool false), (14, 2, .bool false)] ha fun a ha => ?_
  refine p_end ?_
  replace ha := ha.as [(2, .bool false)] rfl
  refine then_n ?_
  refine wp_ret ?_
  refine end_res1 ha (by kernel_rfl) (resT (t := 2) ha rfl) ?_
  replace hS : Sat w0 w ((MO b pv fuel made shared depth deepest tr ow ca pa re bp k v) :: Rs) := hS
  exact ⟨congrArg Value.bool (show (false) = (failB k) by simp [failB, c1]), hS⟩
 ·
  replace ha := ha.turn 8 (.bool true) rfl (congrArg Value.bool (not_tt (decide_eq_false c1)))
  replace ha := ha.turn 9 (.bool true) rfl (congrArg Value.bool (not_tt (decide_eq_false c1)))
  refine p_run [(7, 10, ptr b 0), (8, 11, ptr b 0), (9, 12, ptr b 12), (10, 13, ptr b 12)] ha fun a ha => ?_
  refine p_ld (d := 14) (b := b) (j := 12) ha (hS.blk 0 rfl) rfl fun a ha => ?_
  refine p_run [(12, 15, .bool (!(decide (k = 3)))), (13, 16, .bool (!(decide (k = 3)))), (14, 2, .bool (!(decide (k = 3))))] ha fun a ha => ?_
  refine p_end ?_
  replace ha := ha.as [(2, .bool (!(decide (k = 3))))] rfl
  refine then_n ?_
  refine wp_ret ?_
  refine end_res1 ha (by kernel_rfl) (resT (t := 2) ha rfl) ?_
  replace hS : Sat w0 w ((MO b pv fuel made shared depth deepest tr ow ca pa re bp k v) :: Rs) := hS
  exact ⟨congrArg Value.bool (show (!(decide (k = 3))) = (failB k) by simp [failB, c1]), hS⟩
theorem code85 : Try.f85.body = some (Code.seq (Code.region 0 (regOf Try.f85 0) false) (Code.seq (Code.region 1 (regOf Try.f85 1) false) Code.ret)) := by kernel_rfl
set_option maxRecDepth 20000 in
set_option maxHeartbeats 1000000 in
theorem ends_sat {w0 w : World} {Rs : List Asn} {tr : Sl} {k v ma : Int} (hS : Sat w0 w (Rs)) :
  Calls Try.prog 85 #[(oG k v tr ma)] w (Ret fun r w' => r = .bool (!(failB k)) ∧ Sat w0 w' (Rs)) := by
 refine enter (n := 11) Try.func85 code85 (by kernel_rfl) (Nat.le_of_ble_eq_true rfl) (fun a ha => ?_)
 replace ha : Has 11 [(0, (oG k v tr ma))] a := ha
 refine wp_seq ?_
 refine p_beginL [0, 1] ?_
 refine p_op (o_new (cs := [iv k, iv v, .slice tr.A tr.n tr.c, iv ma]) (T := 54) (fun b => .pointer (some ⟨b, 0, none⟩)) ha (by decide) (iAt (op := (Op.box 54 (Operand.tmp 0))) (d := some 1) (ty := 0)) (by kernel_rfl) hS (fun _ => by kernel_rfl) fun b1 w a hb2 hS ha => ?_)
 refine p_run [(1, 2, .bool false)] ha fun a ha => ?_
 refine p_end ?_
 refine then_n ?_
 refine wp_seq ?_
 refine p_beginL [0, 1, 2, 3, 4, 5, 6, 7, 8] ?_
 refine p_run [(0, 3, ptr b1 0)] ha fun a ha => ?_
 refine p_ld (d := 4) (b := b1) (j := 0) ha (hS.blk 0 rfl) rfl fun a ha => ?_
 refine p_run [(2, 5, .bool (decide (k = 1))), (3, 6, .bool (decide (k = 1)))] ha fun a ha => ?_
 by_cases c3 : k = 1
 ·
  replace ha := ha.turn 5 (.bool true) rfl (congrArg Value.bool (decide_eq_true c3))
  replace ha := ha.turn 6 (.bool true) rfl (congrArg Value.bool (decide_eq_true c3))
  refine p_run [(4, 7, undef), (5, 8, undef), (6, 9, undef), (7, 10, .bool true), (8, 2, .bool true)] ha fun a ha => ?_
  refine p_end ?_
  refine then_n ?_
  refine wp_ret ?_
  refine end_res1 ha (by kernel_rfl) (resT (t := 2) ha rfl) ?_
  replace hS : Sat w0 w (Rs) := hS.pickN 1 [] (by decide) rfl
  exact ⟨congrArg Value.bool (show (true) = (!(failB k)) by simp [failB, c3]), hS⟩
 ·
  replace ha := ha.turn 5 (.bool false) rfl (congrArg Value.bool (decide_eq_false c3))
  replace ha := ha.turn 6 (.bool false) rfl (congrArg Value.bool (decide_eq_false c3))
  refine p_run [(4, 7, ptr b1 0)] ha fun a ha => ?_
  refine p_ld (d := 8) (b := b1) (j := 0) ha (hS.blk 0 rfl) rfl fun a ha => ?_
  refine p_run [(6, 9, .bool (decide (k = 3))), (7, 10, .bool (decide (k = 3))), (8, 2, .bool (decide (k = 3)))] ha fun a ha => ?_
  refine p_end ?_
  refine then_n ?_
  refine wp_ret ?_
  refine end_res1 ha (by kernel_rfl) (resT (t := 2) ha rfl) ?_
  replace hS : Sat w0 w (Rs) := hS.pickN 1 [] (by decide) rfl
  exact ⟨congrArg Value.bool (show (decide (k = 3)) = (!(failB k)) by simp [failB, c3]), hS⟩
theorem code87 : Try.f87.body = some (Code.seq (Code.region 0 (regOf Try.f87 0) false) (Code.seq (Code.seq (Code.region 1 (regOf Try.f87 1) false) (Code.cond (Operand.tmp 8) (Code.seq (Code.region 2 (regOf Try.f87 2) false) Code.ret) Code.skip)) (Code.seq (Code.region 3 (regOf Try.f87 3) true) (Code.seq (Code.seq (Code.region 4 (regOf Try.f87 4) false) (Code.block 0 (Code.loop (Code.seq (Code.region 5 (regOf Try.f87 5) false) (Code.seq (Code.cond (Operand.tmp 19) Code.skip (Code.exit 0)) (Code.seq (Code.block 1 (Code.region 6 (regOf Try.f87 6) true)) (Code.region 7 (regOf Try.f87 7) false))))))) (Code.seq (Code.region 8 (regOf Try.f87 8) false) Code.ret))))) := by kernel_rfl
set_option maxRecDepth 20000 in
set_option maxHeartbeats 1000000 in
theorem waits_sat {w0 w : World} {Rs : List Asn} (hS : Sat w0 w Rs) :
  Calls Try.prog 87 #[.agg #[iv 20, iv 0, iv 1, iv 0]] w (Ret fun r w' => ∃ o : Sl, r = .tuple #[.slice o.A o.n o.c, .bool true] ∧ Sat w0 w' (rI o (List.replicate 19 0) :: Rs)) := by
 refine enter (n := 33) Try.func87 code87 (by kernel_rfl) (Nat.le_of_ble_eq_true rfl) (fun a ha => ?_)
 replace ha : Has 33 [(0, .agg #[iv 20, iv 0, iv 1, iv 0])] a := ha
 refine wp_seq ?_
 refine p_beginL [0, 1, 2] ?_
 refine p_op (o_new (cs := [iv 20, iv 0, iv 1, iv 0]) (T := 86) (fun b => .pointer (some ⟨b, 0, none⟩)) ha (by decide) (iAt (op := (Op.box 86 (Operand.tmp 0))) (d := some 1) (ty := 0)) (by kernel_rfl) hS (fun _ => by kernel_rfl) fun b1 w a hb2 hS ha => ?_)
 refine p_run [(1, 2, .slice none 0 0), (2, 3, .bool false)] ha fun a ha => ?_
 refine p_end ?_
 refine then_n ?_
 refine wp_seq ?_
 refine wp_seq ?_
 refine p_beginL [0, 1, 2] ?_
 refine p_val ha (by decide) (v_loadW ha (iAt (op := (Op.load 86 (Operand.tmp 1))) (d := some 6) (ty := 86)) rfl (by kernel_rfl) (fun _ hw => by rw [hw]; exact hS.blk 0 rfl)) (fun a ha => ?_)
 refine p_op (o_ret ha (by decide) (iAt (op := (Op.call { callee := (Callee.value (Operand.func 102)), args := #[(Operand.tmp 6)], argTypes := #[86] })) (d := some 7) (ty := 4)) rfl Try.func102 (by kernel_rfl) (pol_sat hS) fun v3 w a hp4 ha => ?_)
 obtain ⟨rfl, hS⟩ := hp4
 refine p_run [(2, 8, .bool false)] ha fun a ha => ?_
 refine p_end ?_
 refine then_n ?_
 refine c_false ha rfl rfl ?_
 refine wp_skip ?_
 refine then_n ?_
 refine wp_seq ?_
 refine d_start 8 8 hS fun w hS => ?_
 refine d_run (k := 7) [(1, 10, ptr b1 1)] ha (.inr hS) (pk_then (pk_body)) fun a ha => ?_
 refine d_ld 2 (d := 11) (b := b1) (j := 1) ha hS (pk_then (pk_body)) (fun _ hw => hw.blk 0 rfl) rfl fun a ha => ?_
 refine d_run (k := 5) [(3, 12, ptr b1 3)] ha (.inr hS) (pk_then (pk_body)) fun a ha => ?_
 refine d_ld 4 (d := 13) (b := b1) (j := 3) ha hS (pk_then (pk_body)) (fun _ hw => hw.blk 0 rfl) rfl fun a ha => ?_
 refine d_pure (i := 5) (v := iv 0) ha (by decide) ((v_pure (v := .int .i64 (if 0 < 0 then 0 else 0)) ha (iAt (op := (Op.call { callee := (Callee.builtin Builtin.min), args := #[(Operand.tmp 11), (Operand.tmp 13)], argTypes := #[3, 3] })) (d := some 14) (ty := 3)) (by kernel_rfl) (fun _ => by kernel_rfl)).as (rfl)) (.inr hS) (by kernel_rfl) (by kernel_rfl) (pk_then (pk_body)) fun a ha => ?_
 refine d_one (i := 0) (by kernel_rfl) (o_new (cs := []) (T := 3) (fun b => .slice (some ⟨b, 0, none⟩) 0 0) ha (by decide) (iAt (op := (Op.buildSlice 40 0 #[])) (d := some 9) (ty := 40)) (by kernel_rfl) hS (fun _ => by kernel_rfl) fun b5 w a hb6 hS ha => ?_)
 refine ⟨.inr (Sat.rest [_] hS), ?_⟩
 refine d_run (k := 0) [(6, 4, .slice (some ⟨b5, 0, none⟩) 0 0), (7, 5, iv 0)] ha (.inr (Sat.rest [_] hS)) (pk_then (pk_body)) fun a ha => ?_
 refine d_end (by kernel_rfl) ?_ _
 refine then_n ?_
 refine wp_seq ?_
 refine wp_seq ?_
 refine p_beginL [0, 1, 2, 3] ?_
 refine p_run [(0, 15, ptr b1 0)] ha fun a ha => ?_
 refine p_ld (d := 16) (b := b1) (j := 0) ha (hS.blk 1 rfl) rfl fun a ha => ?_
 refine p_run [(2, 17, iv 19), (3, 18, iv 0)] ha fun a ha => ?_
 refine p_end ?_
 refine then_n ?_
 refine wp_block ?_
 replace hS := hS.blk0 1 0 rfl
 replace hS : Sat w0 w ((rI (⟨some ⟨b5, 0, none⟩, 0, 0⟩ : Sl) []) :: (SX.blk b1 [iv 20, iv 0, iv 1, iv 0] 86) :: Rs) := hS
 refine wp_loop_ghost (fun n_ a_ w_ => ∃ (i : Nat) (o : Sl), n_ = 19 - i ∧ (i ≤ 19) ∧ Has 33 [(1, ptr b1 0), (4, .slice o.A o.n o.c), (5, iv 0), (17, iv 19), (18, iv (i : Int))] a_ ∧ Sat w0 w_ ((rI o (List.replicate i 0)) :: (SX.blk b1 [iv 20, iv 0, iv 1, iv 0] 86) :: Rs)) _ ⟨0, ⟨some ⟨b5, 0, none⟩, 0, 0⟩, rfl, Nat.zero_le _, ha.keeps [1, 4, 5, 17, 18] _ rfl, hS⟩ ?_
 -- the loop's round
 rintro n_ a w ⟨i, o, rfl, hi, ha, hS⟩
 refine wp_seq ?_
 refine p_beginL [0] ?_
 refine p_run [(0, 19, .bool (decide ((i : Int) < 19)))] ha fun a ha => ?_
 refine p_end ?_
 refine then_n ?_
 refine wp_seq ?_
 by_cases c7 : (i : Int) < 19
 ·
  refine c_true ha rfl (decide_eq_true c7) ?_
  refine wp_skip ?_
  refine then_n ?_
  refine wp_seq ?_
  refine wp_block ?_
  refine d_startP 13 13 (hS.pickN 2 [1] (by decide) rfl) hS fun w hS => ?_
  refine d_run (k := 9) [(0, 20, .slice o.A o.n o.c), (1, 21, iv 0), (4, 24, iv 0), (5, 25, ptr b1 2)] ha (.inr (hS.pickN 2 [1] (by decide) rfl)) (pk_in (pk_then (pk_then (pk_in (pk_then (pk_body)))))) fun a ha => ?_
  refine d_ld 6 (d := 26) (b := b1) (j := 2) ha (hS.pickN 2 [1] (by decide) rfl) (pk_in (pk_then (pk_then (pk_in (pk_then (pk_body)))))) (fun _ hw => hw.blk 0 rfl) rfl fun a ha => ?_
  refine d_run (k := 6) [(7, 27, iv 0), (8, 28, ptr b1 3)] ha (.inr (hS.pickN 2 [1] (by decide) rfl)) (pk_in (pk_then (pk_then (pk_in (pk_then (pk_body)))))) fun a ha => ?_
  refine d_ld 9 (d := 29) (b := b1) (j := 3) ha (hS.pickN 2 [1] (by decide) rfl) (pk_in (pk_then (pk_then (pk_in (pk_then (pk_body)))))) (fun _ hw => hw.blk 0 rfl) rfl fun a ha => ?_
  refine d_pure (i := 10) (v := iv 0) ha (by decide) ((v_pure (v := .int .i64 (if 0 < 0 then 0 else 0)) ha (iAt (op := (Op.call { callee := (Callee.builtin Builtin.min), args := #[(Operand.tmp 27), (Operand.tmp 29)], argTypes := #[3, 3] })) (d := some 30) (ty := 3)) (by kernel_rfl) (fun _ => by kernel_rfl)).as (rfl)) (.inr (hS.pickN 2 [1] (by decide) rfl)) (by kernel_rfl) (by kernel_rfl) (pk_in (pk_then (pk_then (pk_in (pk_then (pk_body)))))) fun a ha => ?_
  refine d_one (i := 2) (by kernel_rfl) (o_new (cs := [iv 0]) (T := 3) (fun b => .slice (some ⟨b, 0, none⟩) 1 1) ha (by decide) (iAt (op := (Op.buildSlice 40 1 #[(0, (Operand.tmp 21))])) (d := some 22) (ty := 40)) (by kernel_rfl) hS (fun _ => by kernel_rfl) fun b8 w a hb9 hS ha => ?_)
  refine ⟨.inr (hS.pickN 3 [2] (by decide) rfl), ?_⟩
  refine d_one (i := 3) (by kernel_rfl) (o_appE (news := [iv 0]) (z := iv 0) (sz := 1) (bytes := 8) (T2 := 3) (xs' := encI ((List.replicate i 0) ++ [0])) 1 0 ha (by decide) (iAt (op := (Op.call { callee := (Callee.builtin Builtin.append), args := #[(Operand.tmp 20), (Operand.tmp 22)], argTypes := #[40, 40] })) (d := some 23) (ty := 40)) rfl rfl (by kernel_rfl) (by kernel_rfl) rfl (by decide) hS rfl rfl (by simp) rfl (by rw [encI_length, List.length_replicate]; simp only [List.length_cons, List.length_nil]; omega) (by decide) (encI_snoc _ _) fun s13 w a hS hn14 ha => ?_)
  refine ⟨.inr (hS.pickN 3 [2] (by decide) rfl), ?_⟩
  refine d_run (k := 0) [(11, 4, .slice s13.A s13.n s13.c), (12, 5, iv 0)] ha (.inr (hS.pickN 3 [2] (by decide) rfl)) (pk_in (pk_then (pk_then (pk_in (pk_then (pk_body)))))) fun a ha => ?_
  refine d_end (by kernel_rfl) ?_ _
  refine in_n ?_
  refine then_n ?_
  refine p_beginL [0, 1] ?_
  refine p_val (v := iv ((i : Int) + 1)) ha (by decide) ((v_pure (v := .int .i64 (IntKind.i64.wrap ((i : Int) + 1))) ha (iAt (op := (Op.binOp BinOp.add 3 (Operand.tmp 18) (Operand.const (Value.int IntKind.i64 1)) 3)) (d := some 31) (ty := 3)) (by kernel_rfl) (fun _ => by kernel_rfl)).as (by rw [wrap_i64 (by omega) (by omega)])) (fun a ha => ?_)
  refine p_run [(1, 18, iv ((i : Int) + 1))] ha fun a ha => ?_
  refine p_end ?_
  refine then_n ?_
  replace hS : Sat w0 w ((rI s13 ((List.replicate i 0) ++ [0])) :: (SX.blk b1 [iv 20, iv 0, iv 1, iv 0] 86) :: Rs) := hS.pickN 3 [1, 2] (by decide) rfl
  replace hS : Sat w0 w ((rI s13 (List.replicate (i + 1) 0)) :: (SX.blk b1 [iv 20, iv 0, iv 1, iv 0] 86) :: Rs) := by rw [← rep_next]; exact hS
  exact ⟨_, by omega, i + 1, s13, rfl, by omega, ha.keeps [1, 4, 5, 17, 18] _ rfl, hS⟩
 ·
  refine c_false ha rfl (decide_eq_false c7) ?_
  refine wp_exit ?_
  refine then_x ?_
  refine then_x ?_
  refine in_x ?_
  refine then_n ?_
  refine wp_seq ?_
  refine p_beginL [0, 1, 2] ?_
  refine p_run [(0, 32, .slice o.A o.n o.c), (1, 2, .slice o.A o.n o.c), (2, 3, .bool true)] ha fun a ha => ?_
  refine p_end ?_
  replace ha := ha.as [(2, .slice o.A o.n o.c), (3, .bool true)] rfl
  refine then_n ?_
  refine wp_ret ?_
  refine end_res2 ha (by kernel_rfl) (resT (t := 2) ha rfl) (resT (t := 3) ha rfl) ?_
  replace hS : Sat w0 w ((rI o (List.replicate i 0)) :: Rs) := hS.pickN 2 [0] (by decide) rfl
  obtain rfl : i = 19 := by omega
  exact ⟨o, rfl, hS⟩
theorem code60 : Try.f60.body = some (Code.seq (Code.region 0 (regOf Try.f60 0) false) (Code.seq (Code.region 1 (regOf Try.f60 1) false) (Code.seq (Code.region 2 (regOf Try.f60 2) false) (Code.seq (Code.seq (Code.region 3 (regOf Try.f60 3) false) (Code.cond (Operand.tmp 38) (Code.seq (Code.region 4 (regOf Try.f60 4) false) Code.ret) Code.skip)) (Code.seq (Code.region 5 (regOf Try.f60 5) false) (Code.seq (Code.block 0 (Code.loop (Code.seq (Code.seq (Code.region 6 (regOf Try.f60 6) false) (Code.cond (Operand.tmp 47) Code.skip (Code.exit 0))) (Code.block 1 (Code.seq (Code.region 7 (regOf Try.f60 7) false) (Code.seq (Code.region 8 (regOf Try.f60 8) true) (Code.region 9 (regOf Try.f60 9) false))))))) (Code.seq (Code.region 10 (regOf Try.f60 10) false) Code.ret))))))) := by kernel_rfl
set_option maxRecDepth 20000 in
set_option maxHeartbeats 1000000 in
theorem retry_sat0 {w0 : World} {s : Sl} {l : List (List ST)} {f arg fuel : Int} (hr : RdP w0 s l) (hf : Fits l) :
  Calls Try.prog 60 #[.agg #[.slice s.A s.n s.c], iv f, iv arg, iv fuel, .agg #[iv 20, iv 0, iv 1, iv 0]] w0 (Ret fun r w' => ∃ (tr9 : Sl) (vv mm kk nn : Int), r = .tuple #[oG kk vv tr9 mm, .int .i64 nn, .int .i64 0, .bool (askB l f arg fuel)] ∧ (askB l f arg fuel = true → kk = (rt l f arg fuel (tryK l f arg fuel)).k ∧ nn = (tryK l f arg fuel : Int) + 1) ∧ Sat w0 w' []) := by
 have hS : Sat w0 w0 [] := Sat.start w0
 refine enter (n := 74) Try.func60 code60 (by kernel_rfl) (Nat.le_of_ble_eq_true rfl) (fun a ha => ?_)
 replace ha : Has 74 [(0, .agg #[.slice s.A s.n s.c]), (1, iv f), (2, iv arg), (3, iv fuel), (4, .agg #[iv 20, iv 0, iv 1, iv 0])] a := ha
 refine wp_seq ?_
 refine p_beginL [0, 1, 2, 3, 4, 5] ?_
 refine p_op (o_new (cs := [.slice s.A s.n s.c]) (T := 31) (fun b => .pointer (some ⟨b, 0, none⟩)) ha (by decide) (iAt (op := (Op.box 31 (Operand.tmp 0))) (d := some 5) (ty := 0)) (by kernel_rfl) hS (fun _ => by kernel_rfl) fun b1 w a hb2 hS ha => ?_)
 refine p_op (o_new (cs := [iv 20, iv 0, iv 1, iv 0]) (T := 86) (fun b => .pointer (some ⟨b, 0, none⟩)) ha (by decide) (iAt (op := (Op.box 86 (Operand.tmp 4))) (d := some 9) (ty := 0)) (by kernel_rfl) hS (fun _ => by kernel_rfl) fun b3 w a hb4 hS ha => ?_)
 refine p_op (o_new (cs := [iv 0, iv 0, .slice none 0 0, iv 0]) (T := 54) (fun b => .pointer (some ⟨b, 0, none⟩)) ha (by decide) (iAt (op := (Op.alloc 54)) (d := some 10) (ty := 0)) (by kernel_rfl) hS (fun _ => by kernel_rfl) fun b5 w a hb6 hS ha => ?_)
 refine p_run [(3, 11, iv 0), (4, 12, iv 0), (5, 13, .bool false)] ha fun a ha => ?_
 refine p_end ?_
 refine then_n ?_
 refine wp_seq ?_
 refine p_beginL [0, 1, 2, 3, 4, 5, 6] ?_
 refine p_val ha (by decide) (v_loadW ha (iAt (op := (Op.load 86 (Operand.tmp 9))) (d := some 21) (ty := 86)) rfl (by kernel_rfl) (fun _ hw => by rw [hw]; exact hS.blk 1 rfl)) (fun a ha => ?_)
 refine p_op (o_ret ha (by decide) (iAt (op := (Op.call { callee := (Callee.value (Operand.func 87)), args := #[(Operand.tmp 21)], argTypes := #[86] })) (d := some 22) (ty := 41)) rfl Try.func87 (by kernel_rfl) (waits_sat hS) fun v7 w a hp8 ha => ?_)
 obtain ⟨o9, rfl, hS⟩ := hp8
 refine p_run [(2, 20, .tuple #[.slice o9.A o9.n o9.c, .bool true]), (3, 23, .slice o9.A o9.n o9.c), (4, 24, .bool true), (5, 14, .slice o9.A o9.n o9.c), (6, 15, .bool true)] ha fun a ha => ?_
 refine p_end ?_
 refine then_n ?_
 refine wp_seq ?_
 refine p_beginL [0, 1, 2, 3, 4, 5, 6, 7, 8, 9] ?_
 refine p_val ha (by decide) (v_loadW ha (iAt (op := (Op.load 31 (Operand.tmp 5))) (d := some 26) (ty := 31)) rfl (by kernel_rfl) (fun _ hw => by rw [hw]; exact hS.blk 3 rfl)) (fun a ha => ?_)
 refine p_run [(1, 27, iv f), (2, 28, iv arg), (3, 29, iv fuel)] ha fun a ha => ?_
 rcases Bool.eq_false_or_eq_true (askB l f arg fuel) with c9 | c9
 ·
  refine p_op (o_ret ha (by decide) (iAt (op := (Op.call { callee := (Callee.value (Operand.func 49)), args := #[(Operand.tmp 26), (Operand.tmp 27), (Operand.tmp 28), (Operand.tmp 29)], argTypes := #[31, 3, 3, 3] })) (d := some 30) (ty := 66)) rfl Try.func49 (by kernel_rfl) (ran_sat hS (hr.sat hS) c9) fun v10 w a hp11 ha => ?_)
  obtain ⟨bm1, rfl, hS⟩ := hp11
  obtain ⟨ms1, hms1, hS⟩ := Sat.openMO hS
  replace hS : Sat w0 w ((MO bm1 s fuel ((rn l f arg fuel).m.made) ((rn l f arg fuel).m.shared) ((rn l f arg fuel).m.depth) ((rn l f arg fuel).m.deepest) ms1.tr ms1.ow ms1.ca ms1.pa ms1.re ms1.bp ((rn l f arg fuel).k) ((rn l f arg fuel).v)) :: (rE ms1.tr ((rn l f arg fuel).m.trace)) :: (rI ms1.ow ((rn l f arg fuel).m.owners)) :: (rC ms1.ca ((rn l f arg fuel).m.calls)) :: (rP ms1.pa ms1.us) :: (starL (unwL ms1.us)) :: (rV ms1.re ((rn l f arg fuel).m.recs)) :: (mapA ms1.bp (rn l f arg fuel).m.places) :: (rI o9 (List.replicate 19 0)) :: (SX.blk b5 [iv 0, iv 0, .slice none 0 0, iv 0] 54) :: (SX.blk b3 [iv 20, iv 0, iv 1, iv 0] 86) :: (SX.blk b1 [.slice s.A s.n s.c] 31) :: []) := hS
  refine p_run [(5, 25, .tuple #[ptr bm1 0, .bool true]), (6, 31, ptr bm1 0), (7, 32, .bool true), (8, 16, ptr bm1 0), (9, 17, .bool true)] ha fun a ha => ?_
  refine p_end ?_
  refine then_n ?_
  refine wp_seq ?_
  refine wp_seq ?_
  refine p_beginL [0, 1, 2, 3, 4, 5] ?_
  refine p_run [(0, 33, .bool true), (1, 34, .bool false), (2, 35, .bool false), (3, 36, .bool true), (4, 37, .bool false), (5, 38, .bool false)] ha fun a ha => ?_
  refine p_end ?_
  replace ha := ha.as [(1, iv f), (2, iv arg), (3, iv fuel), (5, ptr b1 0), (9, ptr b3 0), (10, ptr b5 0), (11, iv 0), (12, iv 0), (13, .bool false), (14, .slice o9.A o9.n o9.c), (16, ptr bm1 0), (38, .bool false)] rfl
  refine then_n ?_
  refine c_false ha rfl rfl ?_
  refine wp_skip ?_
  refine then_n ?_
  refine wp_seq ?_
  refine p_beginL [0, 1] ?_
  refine p_run [(0, 18, iv 1), (1, 19, iv 0)] ha fun a ha => ?_
  refine p_end ?_
  refine then_n ?_
  refine wp_seq ?_
  refine wp_block ?_
  replace hS : Sat w0 w ((MO bm1 s fuel ((rn l f arg fuel).m.made) ((rn l f arg fuel).m.shared) ((rn l f arg fuel).m.depth) ((rn l f arg fuel).m.deepest) ms1.tr ms1.ow ms1.ca ms1.pa ms1.re ms1.bp ((rn l f arg fuel).k) ((rn l f arg fuel).v)) :: (rE ms1.tr ((rn l f arg fuel).m.trace)) :: (rI ms1.ow ((rn l f arg fuel).m.owners)) :: (rC ms1.ca ((rn l f arg fuel).m.calls)) :: (rP ms1.pa ms1.us) :: (starL (unwL ms1.us)) :: (rV ms1.re ((rn l f arg fuel).m.recs)) :: (mapA ms1.bp (rn l f arg fuel).m.places) :: (rI o9 (List.replicate 19 0)) :: (SX.blk b1 [.slice s.A s.n s.c] 31) :: (SX.blk b3 [iv 20, iv 0, iv 1, iv 0] 86) :: (SX.blk b5 [iv 0, iv 0, .slice none 0 0, iv 0] 54) :: []) := hS.pickN 12 [0, 1, 2, 3, 4, 5, 6, 7, 8, 11, 10, 9] (by decide) rfl
  refine wp_loop_ghost (fun n_ a_ w_ => ∃ (k : Nat) (m : Int) (R9 : RunR) (bm9 : Nat) (ms9 : MSl), n_ = 19 - k ∧ (k ≤ 19) ∧ (m = (k : Int) + 1) ∧ (R9 = rt l f arg fuel k) ∧ (∀ j : Nat, j < k → failB (rt l f arg fuel j).k = true) ∧ Has 74 [(1, iv f), (2, iv arg), (3, iv fuel), (5, ptr b1 0), (9, ptr b3 0), (10, ptr b5 0), (14, .slice o9.A o9.n o9.c), (16, ptr bm9 0), (18, iv m), (19, iv 0)] a_ ∧ Sat w0 w_ ((MO bm9 s fuel R9.m.made R9.m.shared R9.m.depth R9.m.deepest ms9.tr ms9.ow ms9.ca ms9.pa ms9.re ms9.bp R9.k R9.v) :: (rE ms9.tr R9.m.trace) :: (rI ms9.ow R9.m.owners) :: (rC ms9.ca R9.m.calls) :: (rP ms9.pa ms9.us) :: (starL (unwL ms9.us)) :: (rV ms9.re R9.m.recs) :: (mapA ms9.bp R9.m.places) :: (rI o9 (List.replicate 19 0)) :: (SX.blk b1 [.slice s.A s.n s.c] 31) :: (SX.blk b3 [iv 20, iv 0, iv 1, iv 0] 86) :: (SX.blk b5 [iv 0, iv 0, .slice none 0 0, iv 0] 54) :: [])) _ ⟨0, 1, (rn l f arg fuel), bm1, ms1, rfl, Nat.zero_le _, rfl, rfl, (fun j hj => by omega), ha.keeps [1, 2, 3, 5, 9, 10, 14, 16, 18, 19] _ rfl, hS⟩ ?_
  -- the loop's round
  rintro n_ a w ⟨k, m, R9, bm9, ms9, rfl, hk, hm, hR, hno, ha, hS⟩
  refine wp_seq ?_
  refine wp_seq ?_
  refine p_beginL [0, 1, 2, 3, 4, 5, 6, 7] ?_
  refine p_run [(0, 40, ptr bm9 0)] ha fun a ha => ?_
  replace hS : Sat w0 w ((MO bm9 s fuel R9.m.made R9.m.shared R9.m.depth R9.m.deepest ms9.tr ms9.ow ms9.ca ms9.pa ms9.re ms9.bp R9.k R9.v) :: (rE ms9.tr R9.m.trace) :: (rI ms9.ow R9.m.owners) :: (rC ms9.ca R9.m.calls) :: (rP ms9.pa ms9.us) :: (starL (unwL ms9.us)) :: (rV ms9.re R9.m.recs) :: (mapA ms9.bp R9.m.places) :: (rI o9 (List.replicate 19 0)) :: (SX.blk b1 [.slice s.A s.n s.c] 31) :: (SX.blk b3 [iv 20, iv 0, iv 1, iv 0] 86) :: (SX.blk b5 [iv 0, iv 0, .slice none 0 0, iv 0] 54) :: []) := hS
  refine p_op (o_ret ha (by decide) (iAt (op := (Op.call { callee := (Callee.value (Operand.func 88)), args := #[(Operand.tmp 40)], argTypes := #[65] })) (d := some 41) (ty := 4)) rfl Try.func88 (by kernel_rfl) (fails_sat hS) fun v12 w a hp13 ha => ?_)
  obtain ⟨rfl, hS⟩ := hp13
  refine p_run [(2, 42, .bool (failB R9.k))] ha fun a ha => ?_
  rcases Bool.eq_false_or_eq_true (failB R9.k) with c14 | c14
  ·
   replace ha := ha.turn 41 (.bool true) rfl (congrArg Value.bool c14)
   replace ha := ha.turn 42 (.bool true) rfl (congrArg Value.bool c14)
   refine p_run [(3, 43, iv m), (4, 44, ptr b3 0)] ha fun a ha => ?_
   refine p_ld (d := 45) (b := b3) (j := 0) ha (hS.blk 10 rfl) rfl fun a ha => ?_
   refine p_run [(6, 46, .bool (decide (m < 20))), (7, 47, .bool (decide (m < 20)))] ha fun a ha => ?_
   refine p_end ?_
   refine then_n ?_
   by_cases c15 : m < 20
   ·
    have hask2 : askB l f (w16 (arg + m)) fuel = true := ask_w16 c9
    have harg := (ask_parts c9).2.2.1
    refine c_true ha rfl (decide_eq_true c15) ?_
    refine wp_skip ?_
    refine then_n ?_
    refine wp_block ?_
    refine wp_seq ?_
    refine p_beginL [0, 1, 2, 3, 4, 5, 6, 7] ?_
    refine p_run [(0, 48, iv 0), (1, 49, .slice o9.A o9.n o9.c), (2, 50, iv m)] ha fun a ha => ?_
    refine p_val (v := iv (m - 1)) ha (by decide) ((v_pure (v := .int .i64 (IntKind.i64.wrap (m - 1))) ha (iAt (op := (Op.binOp BinOp.sub 3 (Operand.tmp 50) (Operand.const (Value.int IntKind.i64 1)) 3)) (d := some 51) (ty := 3)) (by kernel_rfl) (fun _ => by kernel_rfl)).as (by rw [wrap_i64 (by omega) (by omega)])) (fun a ha => ?_)
    refine p_val (v := .pointer (some ⟨bk o9, of_ o9 + k * 1, none⟩)) ha (by decide) (v_indexQ (el := 3) (sz := 1) (j := k) ha (iAt (op := (Op.indexAddr 40 (Operand.tmp 49) (Operand.tmp 51))) (d := some 52) (ty := 0)) rfl rfl (by kernel_rfl) (by kernel_rfl) ((hS.rdRow (s := o9) 8 rfl).at_ (show k < (List.replicate 19 (0 : Int)).length by rw [List.length_replicate]; omega)).1 ((show m - 1 = (k : Int) by omega)) (by rw [((hS.rdRow (s := o9) 8 rfl)).len]; exact (show k < (List.replicate 19 (0 : Int)).length by rw [List.length_replicate]; omega))) (fun a ha => ?_)
    refine p_val (v := iv 0) ha (by decide) (v_loadC (v := iv 0) (p := ⟨bk o9, of_ o9 + k * 1, none⟩) ha (iAt (op := (Op.load 3 (Operand.tmp 52))) (d := some 53) (ty := 3)) rfl (by kernel_rfl) (fun w' hw => by rw [hw, Nat.mul_one, ← rep_at k]; exact ((hS.rdRow (s := o9) 8 rfl).at_ (show k < (List.replicate 19 (0 : Int)).length by rw [List.length_replicate]; omega)).2)) (fun a ha => ?_)
    refine p_run [(6, 54, iv 0), (7, 19, iv 0)] ha fun a ha => ?_
    refine p_end ?_
    refine then_n ?_
    refine wp_seq ?_
    refine d_startP 12 12 (hS.pickN 12 [0, 9, 10, 11] (by decide) rfl) hS fun w hS => ?_
    refine d_val (i := 0) ha (by decide) (v_loadW ha (iAt (op := (Op.load 31 (Operand.tmp 5))) (d := some 56) (ty := 31)) rfl (by kernel_rfl) (fun _ hw => hw.blk 1 rfl)) (hS.pickN 12 [0, 9, 10, 11] (by decide) rfl) (by kernel_rfl) (by kernel_rfl) (pk_then (pk_in (pk_then (pk_in (pk_then (pk_body)))))) fun a ha => ?_
    refine d_run (k := 8) [(1, 57, iv f), (2, 58, iv arg), (3, 59, iv m)] ha (.inr (hS.pickN 12 [0, 9, 10, 11] (by decide) rfl)) (pk_then (pk_in (pk_then (pk_in (pk_then (pk_body)))))) fun a ha => ?_
    refine d_pure (i := 4) (v := iv (arg + m)) ha (by decide) ((v_pure (v := .int .i64 (IntKind.i64.wrap (arg + m))) ha (iAt (op := (Op.binOp BinOp.add 3 (Operand.tmp 58) (Operand.tmp 59) 3)) (d := some 60) (ty := 3)) (by kernel_rfl) (fun _ => by kernel_rfl)).as (by rw [wrap_i64 (by omega) (by omega)])) (.inr (hS.pickN 12 [0, 9, 10, 11] (by decide) rfl)) (by kernel_rfl) (by kernel_rfl) (pk_then (pk_in (pk_then (pk_in (pk_then (pk_body)))))) fun a ha => ?_
    refine d_run (k := 6) [(6, 62, iv fuel)] ha (.inr (hS.pickN 12 [0, 9, 10, 11] (by decide) rfl)) (pk_then (pk_in (pk_then (pk_in (pk_then (pk_body)))))) fun a ha => ?_
    refine d_one (i := 5) (by kernel_rfl) (o_ret ha (by decide) (iAt (op := (Op.call { callee := (Callee.value (Operand.func 89)), args := #[(Operand.tmp 60)], argTypes := #[3] })) (d := some 61) (ty := 3)) rfl Try.func89 (by kernel_rfl) (wrapped_sat hS) fun v16 w a hp17 ha => ?_)
    obtain ⟨rfl, hS⟩ := hp17
    refine ⟨.inr (hS.pickN 12 [0, 9, 10, 11] (by decide) rfl), ?_⟩
    refine d_one (i := 7) (by kernel_rfl) (o_ret ha (by decide) (iAt (op := (Op.call { callee := (Callee.value (Operand.func 49)), args := #[(Operand.tmp 56), (Operand.tmp 57), (Operand.tmp 61), (Operand.tmp 62)], argTypes := #[31, 3, 3, 3] })) (d := some 63) (ty := 66)) rfl Try.func49 (by kernel_rfl) (ran_sat hS (hr.sat hS) hask2) fun v18 w a hp19 ha => ?_)
    obtain ⟨bm2, rfl, hS⟩ := hp19
    obtain ⟨ms2, hms2, hS⟩ := Sat.openMO hS
    replace hS : Sat w0 w ((MO bm2 s fuel ((rn l f (w16 (arg + m)) fuel).m.made) ((rn l f (w16 (arg + m)) fuel).m.shared) ((rn l f (w16 (arg + m)) fuel).m.depth) ((rn l f (w16 (arg + m)) fuel).m.deepest) ms2.tr ms2.ow ms2.ca ms2.pa ms2.re ms2.bp ((rn l f (w16 (arg + m)) fuel).k) ((rn l f (w16 (arg + m)) fuel).v)) :: (rE ms2.tr ((rn l f (w16 (arg + m)) fuel).m.trace)) :: (rI ms2.ow ((rn l f (w16 (arg + m)) fuel).m.owners)) :: (rC ms2.ca ((rn l f (w16 (arg + m)) fuel).m.calls)) :: (rP ms2.pa ms2.us) :: (starL (unwL ms2.us)) :: (rV ms2.re ((rn l f (w16 (arg + m)) fuel).m.recs)) :: (mapA ms2.bp (rn l f (w16 (arg + m)) fuel).m.places) :: (MO bm9 s fuel R9.m.made R9.m.shared R9.m.depth R9.m.deepest ms9.tr ms9.ow ms9.ca ms9.pa ms9.re ms9.bp R9.k R9.v) :: (rE ms9.tr R9.m.trace) :: (rI ms9.ow R9.m.owners) :: (rC ms9.ca R9.m.calls) :: (rP ms9.pa ms9.us) :: (starL (unwL ms9.us)) :: (rV ms9.re R9.m.recs) :: (mapA ms9.bp R9.m.places) :: (rI o9 (List.replicate 19 0)) :: (SX.blk b1 [.slice s.A s.n s.c] 31) :: (SX.blk b3 [iv 20, iv 0, iv 1, iv 0] 86) :: (SX.blk b5 [iv 0, iv 0, .slice none 0 0, iv 0] 54) :: []) := hS
    refine ⟨.inr (hS.pickN 20 [8, 17, 18, 19] (by decide) rfl), ?_⟩
    refine d_run (k := 0) [(8, 55, .tuple #[ptr bm2 0, .bool true]), (9, 64, ptr bm2 0), (10, 65, .bool true), (11, 16, ptr bm2 0)] ha (.inr (hS.pickN 20 [8, 17, 18, 19] (by decide) rfl)) (pk_then (pk_in (pk_then (pk_in (pk_then (pk_body)))))) fun a ha => ?_
    refine d_end (by kernel_rfl) ?_ _
    refine then_n ?_
    refine p_beginL [0, 1, 2] ?_
    refine p_run [(0, 66, iv m)] ha fun a ha => ?_
    refine p_val (v := iv (m + 1)) ha (by decide) ((v_pure (v := .int .i64 (IntKind.i64.wrap (m + 1))) ha (iAt (op := (Op.binOp BinOp.add 3 (Operand.tmp 66) (Operand.const (Value.int IntKind.i64 1)) 3)) (d := some 67) (ty := 3)) (by kernel_rfl) (fun _ => by kernel_rfl)).as (by rw [wrap_i64 (by omega) (by omega)])) (fun a ha => ?_)
    refine p_run [(2, 18, iv (m + 1))] ha fun a ha => ?_
    refine p_end ?_
    refine in_n ?_
    refine then_n ?_
    replace hS : Sat w0 w ((MO bm2 s fuel ((rn l f (w16 (arg + m)) fuel).m.made) ((rn l f (w16 (arg + m)) fuel).m.shared) ((rn l f (w16 (arg + m)) fuel).m.depth) ((rn l f (w16 (arg + m)) fuel).m.deepest) ms2.tr ms2.ow ms2.ca ms2.pa ms2.re ms2.bp ((rn l f (w16 (arg + m)) fuel).k) ((rn l f (w16 (arg + m)) fuel).v)) :: (rE ms2.tr ((rn l f (w16 (arg + m)) fuel).m.trace)) :: (rI ms2.ow ((rn l f (w16 (arg + m)) fuel).m.owners)) :: (rC ms2.ca ((rn l f (w16 (arg + m)) fuel).m.calls)) :: (rP ms2.pa ms2.us) :: (starL (unwL ms2.us)) :: (rV ms2.re ((rn l f (w16 (arg + m)) fuel).m.recs)) :: (mapA ms2.bp (rn l f (w16 (arg + m)) fuel).m.places) :: (rI o9 (List.replicate 19 0)) :: (SX.blk b1 [.slice s.A s.n s.c] 31) :: (SX.blk b3 [iv 20, iv 0, iv 1, iv 0] 86) :: (SX.blk b5 [iv 0, iv 0, .slice none 0 0, iv 0] 54) :: []) := hS.pickN 20 [0, 1, 2, 3, 4, 5, 6, 7, 16, 17, 18, 19] (by decide) rfl
    exact ⟨_, by omega, k + 1, m + 1, (rn l f (w16 (arg + m)) fuel), bm2, ms2, rfl, by omega, by omega, rt_next hm, fail_next hR hno c14, ha.keeps [1, 2, 3, 5, 9, 10, 14, 16, 18, 19] _ rfl, hS⟩
   ·
    refine c_false ha rfl (decide_eq_false c15) ?_
    refine wp_exit ?_
    refine then_x ?_
    refine then_x ?_
    refine in_x ?_
    refine then_n ?_
    refine wp_seq ?_
    refine p_beginL [0, 1, 2, 3, 4, 5, 6, 7, 8, 9] ?_
    refine p_run [(0, 68, ptr bm9 0), (1, 69, ptr bm9 0), (2, 70, ptr bm9 12)] ha fun a ha => ?_
    refine p_val (v := (oG R9.k R9.v ms9.tr R9.m.made)) ha (by decide) (v_loadAgg (vs := [iv R9.k, iv R9.v, .slice ms9.tr.A ms9.tr.n ms9.tr.c, iv R9.m.made]) ha (iAt (op := (Op.load 54 (Operand.tmp 70))) (d := some 71) (ty := 54)) rfl (by kernel_rfl) (fun _ hw => by rw [hw]; exact hS.blk 0 rfl) rfl) (fun a ha => ?_)
    refine p_run [(4, 72, iv m), (5, 73, iv 0)] ha fun a ha => ?_
    refine p_op (o_storeAgg 11 ha (iAt (op := (Op.store 54 (Operand.tmp 10) (Operand.tmp 71))) (ty := 0)) rfl rfl rfl (by kernel_rfl) hS rfl (Nat.le_of_ble_eq_true rfl) rfl fun w a hS ha => ?_)
    refine p_run [(7, 11, iv m), (8, 12, iv 0), (9, 13, .bool true)] ha fun a ha => ?_
    refine p_end ?_
    replace ha := ha.as [(10, ptr b5 0), (11, iv m), (12, iv 0), (13, .bool true)] rfl
    refine then_n ?_
    refine wp_ret ?_
    refine end_res4 ha (by kernel_rfl) (resC (t := 10) (ty := 54) (i := 11) ha rfl hS rfl (by kernel_rfl)) (resT (t := 11) ha rfl) (resT (t := 12) ha rfl) (resT (t := 13) ha rfl) ?_
    have hK : tryK l f arg fuel = k := last_eq hno (by omega) (.inr (by omega))
    refine ⟨ms9.tr, R9.v, R9.m.made, _, _, by rw [c9]; rfl, fun _ => ⟨by rw [hK, ← hR], by rw [hK]; exact hm⟩, Sat.rest [_, _, _, _, _, _, _, _, _, _, _, _] hS⟩
  ·
   replace ha := ha.turn 41 (.bool false) rfl (congrArg Value.bool c14)
   replace ha := ha.turn 42 (.bool false) rfl (congrArg Value.bool c14)
   refine p_run [(3, 43, undef), (4, 44, undef), (5, 45, undef), (6, 46, undef), (7, 47, .bool false)] ha fun a ha => ?_
   refine p_end ?_
   refine then_n ?_
   refine c_false ha rfl rfl ?_
   refine wp_exit ?_
   refine then_x ?_
   refine then_x ?_
   refine in_x ?_
   refine then_n ?_
   refine wp_seq ?_
   refine p_beginL [0, 1, 2, 3, 4, 5, 6, 7, 8, 9] ?_
   refine p_run [(0, 68, ptr bm9 0), (1, 69, ptr bm9 0), (2, 70, ptr bm9 12)] ha fun a ha => ?_
   refine p_val (v := (oG R9.k R9.v ms9.tr R9.m.made)) ha (by decide) (v_loadAgg (vs := [iv R9.k, iv R9.v, .slice ms9.tr.A ms9.tr.n ms9.tr.c, iv R9.m.made]) ha (iAt (op := (Op.load 54 (Operand.tmp 70))) (d := some 71) (ty := 54)) rfl (by kernel_rfl) (fun _ hw => by rw [hw]; exact hS.blk 0 rfl) rfl) (fun a ha => ?_)
   refine p_run [(4, 72, iv m), (5, 73, iv 0)] ha fun a ha => ?_
   refine p_op (o_storeAgg 11 ha (iAt (op := (Op.store 54 (Operand.tmp 10) (Operand.tmp 71))) (ty := 0)) rfl rfl rfl (by kernel_rfl) hS rfl (Nat.le_of_ble_eq_true rfl) rfl fun w a hS ha => ?_)
   refine p_run [(7, 11, iv m), (8, 12, iv 0), (9, 13, .bool true)] ha fun a ha => ?_
   refine p_end ?_
   replace ha := ha.as [(10, ptr b5 0), (11, iv m), (12, iv 0), (13, .bool true)] rfl
   refine then_n ?_
   refine wp_ret ?_
   refine end_res4 ha (by kernel_rfl) (resC (t := 10) (ty := 54) (i := 11) ha rfl hS rfl (by kernel_rfl)) (resT (t := 11) ha rfl) (resT (t := 12) ha rfl) (resT (t := 13) ha rfl) ?_
   have hK : tryK l f arg fuel = k := last_eq hno (by omega) (.inl (by rw [← hR]; exact c14))
   refine ⟨ms9.tr, R9.v, R9.m.made, _, _, by rw [c9]; rfl, fun _ => ⟨by rw [hK, ← hR], by rw [hK]; exact hm⟩, Sat.rest [_, _, _, _, _, _, _, _, _, _, _, _] hS⟩
 ·
  refine p_op (o_ret ha (by decide) (iAt (op := (Op.call { callee := (Callee.value (Operand.func 49)), args := #[(Operand.tmp 26), (Operand.tmp 27), (Operand.tmp 28), (Operand.tmp 29)], argTypes := #[31, 3, 3, 3] })) (d := some 30) (ty := 66)) rfl Try.func49 (by kernel_rfl) (ran_no hS (hr.sat hS) c9) fun v20 w a hp21 ha => ?_)
  obtain ⟨rfl, hS⟩ := hp21
  refine p_run [(5, 25, .tuple #[.pointer none, .bool false]), (6, 31, .pointer none), (7, 32, .bool false), (8, 16, .pointer none), (9, 17, .bool false)] ha fun a ha => ?_
  refine p_end ?_
  refine then_n ?_
  refine wp_seq ?_
  refine wp_seq ?_
  refine p_beginL [0, 1, 2, 3, 4, 5] ?_
  refine p_run [(0, 33, .bool true), (1, 34, .bool false), (2, 35, .bool false), (3, 36, .bool false), (4, 37, .bool true), (5, 38, .bool true)] ha fun a ha => ?_
  refine p_end ?_
  replace ha := ha.as [(1, iv f), (2, iv arg), (3, iv fuel), (5, ptr b1 0), (9, ptr b3 0), (10, ptr b5 0), (11, iv 0), (12, iv 0), (13, .bool false), (14, .slice o9.A o9.n o9.c), (16, .pointer none), (38, .bool true)] rfl
  refine then_n ?_
  refine c_true ha rfl rfl ?_
  refine wp_seq ?_
  refine p_beginL [0, 1, 2, 3, 4] ?_
  refine p_run [(0, 39, (oG 0 0 (⟨none, 0, 0⟩) 0))] ha fun a ha => ?_
  refine p_op (o_storeAgg 1 ha (iAt (op := (Op.store 54 (Operand.tmp 10) (Operand.tmp 39))) (ty := 0)) rfl rfl rfl (by kernel_rfl) hS rfl (Nat.le_of_ble_eq_true rfl) rfl fun w a hS ha => ?_)
  refine p_run [(2, 11, iv 0), (3, 12, iv 0), (4, 13, .bool false)] ha fun a ha => ?_
  refine p_end ?_
  refine then_n ?_
  refine wp_ret ?_
  refine then_r ?_
  refine end_res4 ha (by kernel_rfl) (resC (t := 10) (ty := 54) (i := 1) ha rfl hS rfl (by kernel_rfl)) (resT (t := 11) ha rfl) (resT (t := 12) ha rfl) (resT (t := 13) ha rfl) ?_
  exact ⟨⟨none, 0, 0⟩, 0, 0, 0, 0, by rw [c9]; rfl, fun h9 => Bool.noConfusion (c9.symm.trans h9), Sat.rest [_, _, _, _] hS⟩
theorem retry_sat {w0 w : World} {Rs : List Asn} {s : Sl} {l : List (List ST)} {f arg fuel : Int} (hS : Sat w0 w Rs) (hr : RdP w s l) (hf : Fits l) :
  Calls Try.prog 60 #[.agg #[.slice s.A s.n s.c], iv f, iv arg, iv fuel, .agg #[iv 20, iv 0, iv 1, iv 0]] w (Ret fun r w' => ∃ (tr9 : Sl) (vv mm kk nn : Int), r = .tuple #[oG kk vv tr9 mm, .int .i64 nn, .int .i64 0, .bool (askB l f arg fuel)] ∧ (askB l f arg fuel = true → kk = (rt l f arg fuel (tryK l f arg fuel)).k ∧ nn = (tryK l f arg fuel : Int) + 1) ∧ Sat w0 w' Rs) :=
 (retry_sat0 hr hf).mono fun e w' h => by
  cases e with
  | returned r => obtain ⟨tr9, vv, mm, kk, nn, h1, h2, h3⟩ := h; exact ⟨tr9, vv, mm, kk, nn, h1, h2, hS.comp (Ps := []) h3⟩
  | _ => exact h.elim
theorem code59 : Try.f59.body = some (Code.seq (Code.region 0 (regOf Try.f59 0) false) (Code.seq (Code.region 1 (regOf Try.f59 1) false) (Code.seq (Code.region 2 (regOf Try.f59 2) false) (Code.seq (Code.block 0 (Code.loop (Code.seq (Code.seq (Code.region 3 (regOf Try.f59 3) false) (Code.cond (Operand.tmp 26) Code.skip (Code.exit 0))) (Code.block 1 (Code.seq (Code.region 4 (regOf Try.f59 4) true) (Code.region 5 (regOf Try.f59 5) false)))))) (Code.seq (Code.region 6 (regOf Try.f59 6) false) Code.ret))))) := by kernel_rfl
set_option maxRecDepth 20000 in
set_option maxHeartbeats 1000000 in
theorem l8_sat0 {w0 : World} {s : Sl} {l : List (List ST)} {f arg fuel : Int} (hr : RdP w0 s l) (hask : askB l f arg fuel = true) :
  Calls Try.prog 59 #[.agg #[.slice s.A s.n s.c], iv f, iv arg, iv fuel, iv 20] w0 (Ret fun r w' => ∃ (tr9 : Sl) (vv mm kk nn : Int), r = .tuple #[oG kk vv tr9 mm, .int .i64 nn] ∧ (kk = (rt l f arg fuel (tryK l f arg fuel)).k ∧ nn = (tryK l f arg fuel : Int) + 1) ∧ Sat w0 w' []) := by
 have hS : Sat w0 w0 [] := Sat.start w0
 refine enter (n := 39) Try.func59 code59 (by kernel_rfl) (Nat.le_of_ble_eq_true rfl) (fun a ha => ?_)
 replace ha : Has 39 [(0, .agg #[.slice s.A s.n s.c]), (1, iv f), (2, iv arg), (3, iv fuel), (4, iv 20)] a := ha
 refine wp_seq ?_
 refine p_beginL [0, 1, 2] ?_
 refine p_op (o_new (cs := [.slice s.A s.n s.c]) (T := 31) (fun b => .pointer (some ⟨b, 0, none⟩)) ha (by decide) (iAt (op := (Op.box 31 (Operand.tmp 0))) (d := some 5) (ty := 0)) (by kernel_rfl) hS (fun _ => by kernel_rfl) fun b1 w a hb2 hS ha => ?_)
 refine p_op (o_new (cs := [iv 0, iv 0, .slice none 0 0, iv 0]) (T := 54) (fun b => .pointer (some ⟨b, 0, none⟩)) ha (by decide) (iAt (op := (Op.alloc 54)) (d := some 10) (ty := 0)) (by kernel_rfl) hS (fun _ => by kernel_rfl) fun b3 w a hb4 hS ha => ?_)
 refine p_run [(2, 11, iv 0)] ha fun a ha => ?_
 refine p_end ?_
 refine then_n ?_
 refine wp_seq ?_
 refine p_beginL [0, 1, 2, 3, 4, 5, 6] ?_
 refine p_val ha (by decide) (v_loadW ha (iAt (op := (Op.load 31 (Operand.tmp 5))) (d := some 14) (ty := 31)) rfl (by kernel_rfl) (fun _ hw => by rw [hw]; exact hS.blk 1 rfl)) (fun a ha => ?_)
 refine p_run [(1, 15, iv f), (2, 16, iv arg), (3, 17, iv fuel)] ha fun a ha => ?_
 refine p_op (o_ret ha (by decide) (iAt (op := (Op.call { callee := (Callee.value (Operand.func 47)), args := #[(Operand.tmp 14), (Operand.tmp 15), (Operand.tmp 16), (Operand.tmp 17)], argTypes := #[31, 3, 3, 3] })) (d := some 18) (ty := 54)) rfl Try.func47 (by kernel_rfl) (run_sat hS (hr.sat hS) hask) fun v5 w a hp6 ha => ?_)
 obtain ⟨tr1, rfl, hS⟩ := hp6
 refine p_op (o_new (cs := [iv 0, iv 0, .slice none 0 0, iv 0]) (T := 54) (fun b => .pointer (some ⟨b, 0, none⟩)) ha (by decide) (iAt (op := (Op.alloc 54)) (d := some 12) (ty := 0)) (by kernel_rfl) hS (fun _ => by kernel_rfl) fun b7 w a hb8 hS ha => ?_)
 refine p_op (o_storeAgg 0 ha (iAt (op := (Op.store 54 (Operand.tmp 12) (Operand.tmp 18))) (ty := 0)) rfl rfl rfl (by kernel_rfl) hS rfl (Nat.le_of_ble_eq_true rfl) rfl fun w a hS ha => ?_)
 refine p_end ?_
 refine then_n ?_
 refine wp_seq ?_
 refine p_beginL [0] ?_
 refine p_run [(0, 13, iv 1)] ha fun a ha => ?_
 refine p_end ?_
 refine then_n ?_
 refine wp_seq ?_
 refine wp_block ?_
 replace hS : Sat w0 w ((SX.blk b7 [iv ((rn l f arg fuel).k), iv ((rn l f arg fuel).v), .slice tr1.A tr1.n tr1.c, iv ((rn l f arg fuel).m.made)] 54) :: (rE tr1 ((rn l f arg fuel).m.trace)) :: (SX.blk b1 [.slice s.A s.n s.c] 31) :: (SX.blk b3 [iv 0, iv 0, .slice none 0 0, iv 0] 54) :: []) := hS.pickN 4 [0, 1, 3, 2] (by decide) rfl
 refine wp_loop_ghost (fun n_ a_ w_ => ∃ (k : Nat) (m : Int) (R9 : RunR) (tr9 : Sl), n_ = 19 - k ∧ (k ≤ 19) ∧ (m = (k : Int) + 1) ∧ (R9 = rt l f arg fuel k) ∧ (∀ j : Nat, j < k → failB (rt l f arg fuel j).k = true) ∧ Has 39 [(1, iv f), (2, iv arg), (3, iv fuel), (4, iv 20), (5, ptr b1 0), (10, ptr b3 0), (12, ptr b7 0), (13, iv m)] a_ ∧ Sat w0 w_ ((SX.blk b7 [iv R9.k, iv R9.v, .slice tr9.A tr9.n tr9.c, iv R9.m.made] 54) :: (rE tr9 R9.m.trace) :: (SX.blk b1 [.slice s.A s.n s.c] 31) :: (SX.blk b3 [iv 0, iv 0, .slice none 0 0, iv 0] 54) :: [])) _ ⟨0, 1, (rn l f arg fuel), tr1, rfl, Nat.zero_le _, rfl, rfl, (fun j hj => by omega), ha.keeps [1, 2, 3, 4, 5, 10, 12, 13] _ rfl, hS⟩ ?_
 -- the loop's round
 rintro n_ a w ⟨k, m, R9, tr9, rfl, hk, hm, hR, hno, ha, hS⟩
 refine wp_seq ?_
 refine wp_seq ?_
 refine p_beginL [0, 1, 2, 3, 4, 5, 6, 7] ?_
 refine p_run [(0, 19, iv m), (1, 20, iv 20), (2, 21, .bool (decide (m < 20))), (3, 22, .bool (decide (m < 20)))] ha fun a ha => ?_
 by_cases c9 : m < 20
 ·
  replace ha := ha.turn 21 (.bool true) rfl (congrArg Value.bool (decide_eq_true c9))
  replace ha := ha.turn 22 (.bool true) rfl (congrArg Value.bool (decide_eq_true c9))
  have hask2 : askB l f (w16 (arg + m)) fuel = true := ask_w16 hask
  have harg := (ask_parts hask).2.2.1
  refine p_val ha (by decide) (v_loadW ha (AtG.here (gd := 22) ⟨(by kernel_rfl : ((regOf Try.f59 3)[4]?).map spec = some ((Op.load 54 (Operand.tmp 12)), some 23, 54, some (3, true))), by kernel_rfl⟩ ha rfl) rfl (by kernel_rfl) (fun _ hw => by rw [hw]; exact hS.blk 0 rfl)) (fun a ha => ?_)
  refine p_op (o_ret ha (by decide) (AtG.here (gd := 22) ⟨(by kernel_rfl : ((regOf Try.f59 3)[5]?).map spec = some ((Op.call { callee := (Callee.value (Operand.func 85)), args := #[(Operand.tmp 23)], argTypes := #[54] }), some 24, 4, some (3, true))), by kernel_rfl⟩ ha rfl) rfl Try.func85 (by kernel_rfl) (ends_sat hS) fun v10 w a hp11 ha => ?_)
  obtain ⟨rfl, hS⟩ := hp11
  refine p_run [(6, 25, .bool (!(!((failB R9.k))))), (7, 26, .bool (!(!((failB R9.k)))))] ha fun a ha => ?_
  refine p_end ?_
  refine then_n ?_
  rcases Bool.eq_false_or_eq_true (failB R9.k) with c12 | c12
  ·
   refine c_true ha rfl (not_tt (not_ff c12)) ?_
   refine wp_skip ?_
   refine then_n ?_
   refine wp_block ?_
   refine wp_seq ?_
   refine d_startP 8 9 (hS.pickN 4 [0, 2, 3] (by decide) rfl) hS fun w hS => ?_
   refine d_val (i := 0) ha (by decide) (v_loadW ha (iAt (op := (Op.load 31 (Operand.tmp 5))) (d := some 27) (ty := 31)) rfl (by kernel_rfl) (fun _ hw => hw.blk 1 rfl)) (hS.pickN 4 [0, 2, 3] (by decide) rfl) (by kernel_rfl) (by kernel_rfl) (pk_then (pk_in (pk_then (pk_in (pk_then (pk_body)))))) fun a ha => ?_
   refine d_run (k := 5) [(1, 28, iv f), (2, 29, iv arg), (3, 30, iv m)] ha (.inr (hS.pickN 4 [0, 2, 3] (by decide) rfl)) (pk_then (pk_in (pk_then (pk_in (pk_then (pk_body)))))) fun a ha => ?_
   refine d_pure (i := 4) (v := iv (arg + m)) ha (by decide) ((v_pure (v := .int .i64 (IntKind.i64.wrap (arg + m))) ha (iAt (op := (Op.binOp BinOp.add 3 (Operand.tmp 29) (Operand.tmp 30) 3)) (d := some 31) (ty := 3)) (by kernel_rfl) (fun _ => by kernel_rfl)).as (by rw [wrap_i64 (by omega) (by omega)])) (.inr (hS.pickN 4 [0, 2, 3] (by decide) rfl)) (by kernel_rfl) (by kernel_rfl) (pk_then (pk_in (pk_then (pk_in (pk_then (pk_body)))))) fun a ha => ?_
   refine d_run (k := 3) [(6, 33, iv fuel)] ha (.inr (hS.pickN 4 [0, 2, 3] (by decide) rfl)) (pk_then (pk_in (pk_then (pk_in (pk_then (pk_body)))))) fun a ha => ?_
   refine d_one (i := 5) (by kernel_rfl) (o_ret ha (by decide) (iAt (op := (Op.call { callee := (Callee.value (Operand.func 86)), args := #[(Operand.tmp 31)], argTypes := #[3] })) (d := some 32) (ty := 3)) rfl Try.func86 (by kernel_rfl) (q_wrap hS (by omega) (by omega)) fun v13 w a hp14 ha => ?_)
   obtain ⟨rfl, hS⟩ := hp14
   refine ⟨.inr (hS.pickN 4 [0, 2, 3] (by decide) rfl), ?_⟩
   refine d_one (i := 7) (by kernel_rfl) (o_ret ha (by decide) (iAt (op := (Op.call { callee := (Callee.value (Operand.func 47)), args := #[(Operand.tmp 27), (Operand.tmp 28), (Operand.tmp 32), (Operand.tmp 33)], argTypes := #[31, 3, 3, 3] })) (d := some 34) (ty := 54)) rfl Try.func47 (by kernel_rfl) (run_sat hS (hr.sat hS) hask2) fun v15 w a hp16 ha => ?_)
   obtain ⟨tr2, rfl, hS⟩ := hp16
   refine ⟨.inr (hS.pickN 5 [1, 3, 4] (by decide) rfl), ?_⟩
   refine d_one (i := 8) (by kernel_rfl) (o_storeAgg 1 ha (iAt (op := (Op.store 54 (Operand.tmp 12) (Operand.tmp 34))) (ty := 0)) rfl rfl rfl (by kernel_rfl) hS rfl (Nat.le_of_ble_eq_true rfl) rfl fun w a hS ha => ?_)
   refine ⟨.inl (by kernel_rfl), ?_⟩
   refine d_end (by kernel_rfl) ?_ _
   refine then_n ?_
   refine p_beginL [0, 1, 2] ?_
   refine p_run [(0, 35, iv m)] ha fun a ha => ?_
   refine p_val (v := iv (m + 1)) ha (by decide) ((v_pure (v := .int .i64 (IntKind.i64.wrap (m + 1))) ha (iAt (op := (Op.binOp BinOp.add 3 (Operand.tmp 35) (Operand.const (Value.int IntKind.i64 1)) 3)) (d := some 36) (ty := 3)) (by kernel_rfl) (fun _ => by kernel_rfl)).as (by rw [wrap_i64 (by omega) (by omega)])) (fun a ha => ?_)
   refine p_run [(2, 13, iv (m + 1))] ha fun a ha => ?_
   refine p_end ?_
   refine in_n ?_
   refine then_n ?_
   replace hS : Sat w0 w ((SX.blk b7 [iv ((rn l f (w16 (arg + m)) fuel).k), iv ((rn l f (w16 (arg + m)) fuel).v), .slice tr2.A tr2.n tr2.c, iv ((rn l f (w16 (arg + m)) fuel).m.made)] 54) :: (rE tr2 ((rn l f (w16 (arg + m)) fuel).m.trace)) :: (SX.blk b1 [.slice s.A s.n s.c] 31) :: (SX.blk b3 [iv 0, iv 0, .slice none 0 0, iv 0] 54) :: []) := hS.pickN 5 [1, 0, 3, 4] (by decide) rfl
   exact ⟨_, by omega, k + 1, m + 1, (rn l f (w16 (arg + m)) fuel), tr2, rfl, by omega, by omega, rt_next hm, fail_next hR hno c12, ha.keeps [1, 2, 3, 4, 5, 10, 12, 13] _ rfl, hS⟩
  ·
   refine c_false ha rfl (not_ff (not_tt c12)) ?_
   refine wp_exit ?_
   refine then_x ?_
   refine then_x ?_
   refine in_x ?_
   refine then_n ?_
   refine wp_seq ?_
   refine p_beginL [0, 1, 2, 3] ?_
   refine p_val ha (by decide) (v_loadW ha (iAt (op := (Op.load 54 (Operand.tmp 12))) (d := some 37) (ty := 54)) rfl (by kernel_rfl) (fun _ hw => by rw [hw]; exact hS.blk 0 rfl)) (fun a ha => ?_)
   refine p_run [(1, 38, iv m)] ha fun a ha => ?_
   refine p_op (o_storeAgg 3 ha (iAt (op := (Op.store 54 (Operand.tmp 10) (Operand.tmp 37))) (ty := 0)) rfl rfl rfl (by kernel_rfl) hS rfl (Nat.le_of_ble_eq_true rfl) rfl fun w a hS ha => ?_)
   refine p_run [(3, 11, iv m)] ha fun a ha => ?_
   refine p_end ?_
   replace ha := ha.as [(10, ptr b3 0), (11, iv m)] rfl
   refine then_n ?_
   refine wp_ret ?_
   refine end_res2 ha (by kernel_rfl) (resC (t := 10) (ty := 54) (i := 3) ha rfl hS rfl (by kernel_rfl)) (resT (t := 11) ha rfl) ?_
   have hK : tryK l f arg fuel = k := last_eq hno (by omega) (.inl (by rw [← hR]; exact c12))
   exact ⟨tr9, R9.v, R9.m.made, _, _, rfl, ⟨by rw [hK, ← hR], by rw [hK]; exact hm⟩, Sat.rest [_, _, _, _] hS⟩
 ·
  replace ha := ha.turn 21 (.bool false) rfl (congrArg Value.bool (decide_eq_false c9))
  replace ha := ha.turn 22 (.bool false) rfl (congrArg Value.bool (decide_eq_false c9))
  refine p_run [(4, 23, undef), (5, 24, undef), (6, 25, undef), (7, 26, .bool false)] ha fun a ha => ?_
  refine p_end ?_
  refine then_n ?_
  refine c_false ha rfl rfl ?_
  refine wp_exit ?_
  refine then_x ?_
  refine then_x ?_
  refine in_x ?_
  refine then_n ?_
  refine wp_seq ?_
  refine p_beginL [0, 1, 2, 3] ?_
  refine p_val ha (by decide) (v_loadW ha (iAt (op := (Op.load 54 (Operand.tmp 12))) (d := some 37) (ty := 54)) rfl (by kernel_rfl) (fun _ hw => by rw [hw]; exact hS.blk 0 rfl)) (fun a ha => ?_)
  refine p_run [(1, 38, iv m)] ha fun a ha => ?_
  refine p_op (o_storeAgg 3 ha (iAt (op := (Op.store 54 (Operand.tmp 10) (Operand.tmp 37))) (ty := 0)) rfl rfl rfl (by kernel_rfl) hS rfl (Nat.le_of_ble_eq_true rfl) rfl fun w a hS ha => ?_)
  refine p_run [(3, 11, iv m)] ha fun a ha => ?_
  refine p_end ?_
  replace ha := ha.as [(10, ptr b3 0), (11, iv m)] rfl
  refine then_n ?_
  refine wp_ret ?_
  refine end_res2 ha (by kernel_rfl) (resC (t := 10) (ty := 54) (i := 3) ha rfl hS rfl (by kernel_rfl)) (resT (t := 11) ha rfl) ?_
  have hK : tryK l f arg fuel = k := last_eq hno (by omega) (.inr (by omega))
  exact ⟨tr9, R9.v, R9.m.made, _, _, rfl, ⟨by rw [hK, ← hR], by rw [hK]; exact hm⟩, Sat.rest [_, _, _, _] hS⟩
theorem l8_sat {w0 w : World} {Rs : List Asn} {s : Sl} {l : List (List ST)} {f arg fuel : Int} (hS : Sat w0 w Rs) (hr : RdP w s l) (hask : askB l f arg fuel = true) :
  Calls Try.prog 59 #[.agg #[.slice s.A s.n s.c], iv f, iv arg, iv fuel, iv 20] w (Ret fun r w' => ∃ (tr9 : Sl) (vv mm kk nn : Int), r = .tuple #[oG kk vv tr9 mm, .int .i64 nn] ∧ (kk = (rt l f arg fuel (tryK l f arg fuel)).k ∧ nn = (tryK l f arg fuel : Int) + 1) ∧ Sat w0 w' Rs) :=
 (l8_sat0 hr hask).mono fun e w' h => by
  cases e with
  | returned r => obtain ⟨tr9, vv, mm, kk, nn, h1, h2, h3⟩ := h; exact ⟨tr9, vv, mm, kk, nn, h1, h2, hS.comp (Ps := []) h3⟩
  | _ => exact h.elim
theorem code26 : Try.f26.body = some (Code.seq (Code.region 0 (regOf Try.f26 0) false) (Code.seq (Code.region 1 (regOf Try.f26 1) false) (Code.seq (Code.seq (Code.region 2 (regOf Try.f26 2) false) (Code.cond (Operand.tmp 31) (Code.seq (Code.region 3 (regOf Try.f26 3) false) Code.ret) Code.skip)) (Code.seq (Code.region 4 (regOf Try.f26 4) false) Code.ret)))) := by kernel_rfl
set_option maxRecDepth 20000 in
set_option maxHeartbeats 1000000 in
theorem impl_TriesNeeded_sat0 {w0 : World} {s : Sl} {l : List (List ST)} {f arg fuel : Int} (hr : RdP w0 s l) (hf : Fits l) :
  Calls Try.prog 26 #[.agg #[.slice s.A s.n s.c], iv f, iv arg, iv fuel] w0 (Ret fun r w' => r = .tuple #[.int .i64 ((triesP l f arg fuel).1), .bool ((triesP l f arg fuel).2)] ∧ Sat w0 w' []) := by
 have hS : Sat w0 w0 [] := Sat.start w0
 refine enter (n := 33) Try.func26 code26 (by kernel_rfl) (Nat.le_of_ble_eq_true rfl) (fun a ha => ?_)
 replace ha : Has 33 [(0, .agg #[.slice s.A s.n s.c]), (1, iv f), (2, iv arg), (3, iv fuel)] a := ha
 refine wp_seq ?_
 refine p_beginL [0, 1, 2] ?_
 refine p_op (o_new (cs := [.slice s.A s.n s.c]) (T := 31) (fun b => .pointer (some ⟨b, 0, none⟩)) ha (by decide) (iAt (op := (Op.box 31 (Operand.tmp 0))) (d := some 4) (ty := 0)) (by kernel_rfl) hS (fun _ => by kernel_rfl) fun b1 w a hb2 hS ha => ?_)
 refine p_run [(1, 8, iv 0), (2, 9, .bool false)] ha fun a ha => ?_
 refine p_end ?_
 refine then_n ?_
 refine wp_seq ?_
 refine p_beginL [0, 1, 2, 3, 4, 5, 6, 7, 8, 9, 10, 11, 12, 13, 14, 15] ?_
 refine p_val ha (by decide) (v_loadW ha (iAt (op := (Op.load 31 (Operand.tmp 4))) (d := some 15) (ty := 31)) rfl (by kernel_rfl) (fun _ hw => by rw [hw]; exact hS.blk 0 rfl)) (fun a ha => ?_)
 refine p_run [(1, 16, iv f), (2, 17, iv arg), (3, 18, iv fuel), (4, 19, .agg #[iv 20, iv 0, iv 1, iv 0])] ha fun a ha => ?_
 refine p_op (o_ret ha (by decide) (iAt (op := (Op.call { callee := (Callee.value (Operand.func 60)), args := #[(Operand.tmp 15), (Operand.tmp 16), (Operand.tmp 17), (Operand.tmp 18), (Operand.tmp 19)], argTypes := #[31, 3, 3, 3, 86] })) (d := some 20) (ty := 83)) rfl Try.func60 (by kernel_rfl) (retry_sat hS (hr.sat hS) hf) fun v3 w a hp4 ha => ?_)
 obtain ⟨tr9, vv, mm, kk, nn, rfl, hkn, hS⟩ := hp4
 refine p_run [(6, 14, .tuple #[(oG kk vv tr9 mm), iv nn, iv 0, .bool (askB l f arg fuel)]), (7, 21, (oG kk vv tr9 mm)), (8, 22, iv nn), (9, 23, iv 0), (10, 24, .bool (askB l f arg fuel))] ha fun a ha => ?_
 refine p_op (o_new (cs := [iv 0, iv 0, .slice none 0 0, iv 0]) (T := 54) (fun b => .pointer (some ⟨b, 0, none⟩)) ha (by decide) (iAt (op := (Op.alloc 54)) (d := some 10) (ty := 0)) (by kernel_rfl) hS (fun _ => by kernel_rfl) fun b5 w a hb6 hS ha => ?_)
 refine p_op (o_storeAgg 0 ha (iAt (op := (Op.store 54 (Operand.tmp 10) (Operand.tmp 21))) (ty := 0)) rfl rfl rfl (by kernel_rfl) hS rfl (Nat.le_of_ble_eq_true rfl) rfl fun w a hS ha => ?_)
 refine p_run [(13, 11, iv nn), (14, 12, iv 0), (15, 13, .bool (askB l f arg fuel))] ha fun a ha => ?_
 refine p_end ?_
 refine then_n ?_
 refine wp_seq ?_
 refine wp_seq ?_
 refine p_beginL [0, 1, 2, 3, 4, 5, 6] ?_
 refine p_run [(0, 25, .bool (askB l f arg fuel)), (1, 26, .bool (!(askB l f arg fuel))), (2, 27, .bool (!(askB l f arg fuel)))] ha fun a ha => ?_
 rcases Bool.eq_false_or_eq_true (askB l f arg fuel) with c7 | c7
 ·
  replace ha := ha.turn 13 (.bool true) rfl (congrArg Value.bool c7)
  replace ha := ha.turn 25 (.bool true) rfl (congrArg Value.bool c7)
  replace ha := ha.turn 26 (.bool false) rfl (congrArg Value.bool (not_ff c7))
  replace ha := ha.turn 27 (.bool false) rfl (congrArg Value.bool (not_ff c7))
  refine p_run [(3, 28, ptr b5 0)] ha fun a ha => ?_
  refine p_ld (d := 29) (b := b5) (j := 0) ha (hS.blk 0 rfl) rfl fun a ha => ?_
  refine p_run [(5, 30, .bool (!(decide (kk = 1)))), (6, 31, .bool (!(decide (kk = 1))))] ha fun a ha => ?_
  refine p_end ?_
  replace ha := ha.as [(8, iv 0), (9, .bool false), (11, iv nn), (31, .bool (!(decide (kk = 1))))] rfl
  refine then_n ?_
  by_cases c8 : kk = 1
  ·
   refine c_false ha rfl (not_ff (decide_eq_true c8)) ?_
   refine wp_skip ?_
   refine then_n ?_
   refine wp_seq ?_
   refine p_beginL [0, 1, 2] ?_
   refine p_run [(0, 32, iv nn), (1, 8, iv nn), (2, 9, .bool true)] ha fun a ha => ?_
   refine p_end ?_
   refine then_n ?_
   refine wp_ret ?_
   refine end_res2 ha (by kernel_rfl) (resT (t := 8) ha rfl) (resT (t := 9) ha rfl) ?_
   have hkn2 := hkn c7
   have hE : triesP l f arg fuel = (nn, true) := by unfold triesP; rw [if_pos c7, if_pos (by rw [← hkn2.1]; exact c8), ← hkn2.2]
   rw [hE]
   exact ⟨rfl, Sat.rest [_, _] hS⟩
  ·
   refine c_true ha rfl (not_tt (decide_eq_false c8)) ?_
   refine wp_seq ?_
   refine p_beginL [0, 1] ?_
   refine p_run [(0, 8, iv 0), (1, 9, .bool false)] ha fun a ha => ?_
   refine p_end ?_
   refine then_n ?_
   refine wp_ret ?_
   refine then_r ?_
   refine end_res2 ha (by kernel_rfl) (resT (t := 8) ha rfl) (resT (t := 9) ha rfl) ?_
   have hkn2 := hkn c7
   have hE : triesP l f arg fuel = (0, false) := by unfold triesP; rw [if_pos c7, if_neg (by rw [← hkn2.1]; exact c8)]
   rw [hE]
   exact ⟨rfl, Sat.rest [_, _] hS⟩
 ·
  replace ha := ha.turn 13 (.bool false) rfl (congrArg Value.bool c7)
  replace ha := ha.turn 25 (.bool false) rfl (congrArg Value.bool c7)
  replace ha := ha.turn 26 (.bool true) rfl (congrArg Value.bool (not_tt c7))
  replace ha := ha.turn 27 (.bool true) rfl (congrArg Value.bool (not_tt c7))
  refine p_run [(3, 28, undef), (4, 29, undef), (5, 30, undef), (6, 31, .bool true)] ha fun a ha => ?_
  refine p_end ?_
  replace ha := ha.as [(8, iv 0), (9, .bool false), (11, iv nn), (31, .bool true)] rfl
  refine then_n ?_
  refine c_true ha rfl rfl ?_
  refine wp_seq ?_
  refine p_beginL [0, 1] ?_
  refine p_run [(0, 8, iv 0), (1, 9, .bool false)] ha fun a ha => ?_
  refine p_end ?_
  refine then_n ?_
  refine wp_ret ?_
  refine then_r ?_
  refine end_res2 ha (by kernel_rfl) (resT (t := 8) ha rfl) (resT (t := 9) ha rfl) ?_
  have hE : triesP l f arg fuel = (0, false) := by unfold triesP; rw [if_neg (by rw [c7]; decide)]
  rw [hE]
  exact ⟨rfl, Sat.rest [_, _] hS⟩
theorem impl_TriesNeeded_sat {w0 w : World} {Rs : List Asn} {s : Sl} {l : List (List ST)} {f arg fuel : Int} (hS : Sat w0 w Rs) (hr : RdP w s l) (hf : Fits l) :
  Calls Try.prog 26 #[.agg #[.slice s.A s.n s.c], iv f, iv arg, iv fuel] w (Ret fun r w' => r = .tuple #[.int .i64 ((triesP l f arg fuel).1), .bool ((triesP l f arg fuel).2)] ∧ Sat w0 w' Rs) := lift0 hS (impl_TriesNeeded_sat0 hr hf)
theorem code25 : Try.f25.body = some (Code.seq (Code.region 0 (regOf Try.f25 0) false) (Code.seq (Code.seq (Code.region 1 (regOf Try.f25 1) false) (Code.cond (Operand.tmp 17) (Code.seq (Code.region 2 (regOf Try.f25 2) false) Code.ret) Code.skip)) (Code.seq (Code.region 3 (regOf Try.f25 3) false) (Code.seq (Code.seq (Code.region 4 (regOf Try.f25 4) false) (Code.cond (Operand.tmp 28) (Code.seq (Code.region 5 (regOf Try.f25 5) false) Code.ret) Code.skip)) (Code.seq (Code.region 6 (regOf Try.f25 6) false) Code.ret))))) := by kernel_rfl
set_option maxRecDepth 20000 in
set_option maxHeartbeats 1000000 in
theorem spec_TriesNeeded_sat0 {w0 : World} {s : Sl} {l : List (List ST)} {f arg fuel : Int} (hr : RdP w0 s l) (hf : Fits l) :
  Calls Try.prog 25 #[.agg #[.slice s.A s.n s.c], iv f, iv arg, iv fuel] w0 (Ret fun r w' => r = .tuple #[.int .i64 ((triesP l f arg fuel).1), .bool ((triesP l f arg fuel).2)] ∧ Sat w0 w' []) := by
 have hS : Sat w0 w0 [] := Sat.start w0
 refine enter (n := 30) Try.func25 code25 (by kernel_rfl) (Nat.le_of_ble_eq_true rfl) (fun a ha => ?_)
 replace ha : Has 30 [(0, .agg #[.slice s.A s.n s.c]), (1, iv f), (2, iv arg), (3, iv fuel)] a := ha
 refine wp_seq ?_
 refine p_beginL [0, 1, 2] ?_
 refine p_op (o_new (cs := [.slice s.A s.n s.c]) (T := 31) (fun b => .pointer (some ⟨b, 0, none⟩)) ha (by decide) (iAt (op := (Op.box 31 (Operand.tmp 0))) (d := some 4) (ty := 0)) (by kernel_rfl) hS (fun _ => by kernel_rfl) fun b1 w a hb2 hS ha => ?_)
 refine p_run [(1, 8, iv 0), (2, 9, .bool false)] ha fun a ha => ?_
 refine p_end ?_
 refine then_n ?_
 refine wp_seq ?_
 refine wp_seq ?_
 refine p_beginL [0, 1, 2, 3, 4, 5] ?_
 refine p_val ha (by decide) (v_loadW ha (iAt (op := (Op.load 31 (Operand.tmp 4))) (d := some 12) (ty := 31)) rfl (by kernel_rfl) (fun _ hw => by rw [hw]; exact hS.blk 0 rfl)) (fun a ha => ?_)
 refine p_run [(1, 13, iv f), (2, 14, iv arg), (3, 15, iv fuel)] ha fun a ha => ?_
 refine p_op (o_ret ha (by decide) (iAt (op := (Op.call { callee := (Callee.value (Operand.func 46)), args := #[(Operand.tmp 12), (Operand.tmp 13), (Operand.tmp 14), (Operand.tmp 15)], argTypes := #[31, 3, 3, 3] })) (d := some 16) (ty := 4)) rfl Try.func46 (by kernel_rfl) (ask_sat hS (hr.sat hS) hf) fun v3 w a hp4 ha => ?_)
 obtain ⟨rfl, hS⟩ := hp4
 refine p_run [(5, 17, .bool (!(askB l f arg fuel)))] ha fun a ha => ?_
 refine p_end ?_
 refine then_n ?_
 rcases Bool.eq_false_or_eq_true (askB l f arg fuel) with c5 | c5
 ·
  refine c_false ha rfl (not_ff c5) ?_
  refine wp_skip ?_
  refine then_n ?_
  refine wp_seq ?_
  refine p_beginL [0, 1, 2, 3, 4, 5, 6, 7, 8, 9, 10] ?_
  refine p_val ha (by decide) (v_loadW ha (iAt (op := (Op.load 31 (Operand.tmp 4))) (d := some 19) (ty := 31)) rfl (by kernel_rfl) (fun _ hw => by rw [hw]; exact hS.blk 0 rfl)) (fun a ha => ?_)
  refine p_run [(1, 20, iv f), (2, 21, iv arg), (3, 22, iv fuel)] ha fun a ha => ?_
  refine p_op (o_ret ha (by decide) (iAt (op := (Op.call { callee := (Callee.value (Operand.func 59)), args := #[(Operand.tmp 19), (Operand.tmp 20), (Operand.tmp 21), (Operand.tmp 22), (Operand.const (Value.int IntKind.i64 20))], argTypes := #[31, 3, 3, 3, 3] })) (d := some 23) (ty := 81)) rfl Try.func59 (by kernel_rfl) (l8_sat hS (hr.sat hS) c5) fun v6 w a hp7 ha => ?_)
  obtain ⟨tr9, vv, mm, kk, nn, rfl, hkn, hS⟩ := hp7
  refine p_run [(5, 18, .tuple #[(oG kk vv tr9 mm), iv nn]), (6, 24, (oG kk vv tr9 mm)), (7, 25, iv nn)] ha fun a ha => ?_
  refine p_op (o_new (cs := [iv 0, iv 0, .slice none 0 0, iv 0]) (T := 54) (fun b => .pointer (some ⟨b, 0, none⟩)) ha (by decide) (iAt (op := (Op.alloc 54)) (d := some 10) (ty := 0)) (by kernel_rfl) hS (fun _ => by kernel_rfl) fun b8 w a hb9 hS ha => ?_)
  refine p_op (o_storeAgg 0 ha (iAt (op := (Op.store 54 (Operand.tmp 10) (Operand.tmp 24))) (ty := 0)) rfl rfl rfl (by kernel_rfl) hS rfl (Nat.le_of_ble_eq_true rfl) rfl fun w a hS ha => ?_)
  refine p_run [(10, 11, iv nn)] ha fun a ha => ?_
  refine p_end ?_
  refine then_n ?_
  refine wp_seq ?_
  refine wp_seq ?_
  refine p_beginL [0, 1, 2] ?_
  refine p_run [(0, 26, ptr b8 0)] ha fun a ha => ?_
  refine p_ld (d := 27) (b := b8) (j := 0) ha (hS.blk 0 rfl) rfl fun a ha => ?_
  refine p_run [(2, 28, .bool (!(decide (kk = 1))))] ha fun a ha => ?_
  refine p_end ?_
  replace ha := ha.as [(8, iv 0), (9, .bool false), (11, iv nn), (28, .bool (!(decide (kk = 1))))] rfl
  refine then_n ?_
  by_cases c10 : kk = 1
  ·
   refine c_false ha rfl (not_ff (decide_eq_true c10)) ?_
   refine wp_skip ?_
   refine then_n ?_
   refine wp_seq ?_
   refine p_beginL [0, 1, 2] ?_
   refine p_run [(0, 29, iv nn), (1, 8, iv nn), (2, 9, .bool true)] ha fun a ha => ?_
   refine p_end ?_
   refine then_n ?_
   refine wp_ret ?_
   refine end_res2 ha (by kernel_rfl) (resT (t := 8) ha rfl) (resT (t := 9) ha rfl) ?_
   have hkn2 := hkn
   have hE : triesP l f arg fuel = (nn, true) := by unfold triesP; rw [if_pos c5, if_pos (by rw [← hkn2.1]; exact c10), ← hkn2.2]
   rw [hE]
   exact ⟨rfl, Sat.rest [_, _] hS⟩
  ·
   refine c_true ha rfl (not_tt (decide_eq_false c10)) ?_
   refine wp_seq ?_
   refine p_beginL [0, 1] ?_
   refine p_run [(0, 8, iv 0), (1, 9, .bool false)] ha fun a ha => ?_
   refine p_end ?_
   refine then_n ?_
   refine wp_ret ?_
   refine then_r ?_
   refine end_res2 ha (by kernel_rfl) (resT (t := 8) ha rfl) (resT (t := 9) ha rfl) ?_
   have hkn2 := hkn
   have hE : triesP l f arg fuel = (0, false) := by unfold triesP; rw [if_pos c5, if_neg (by rw [← hkn2.1]; exact c10)]
   rw [hE]
   exact ⟨rfl, Sat.rest [_, _] hS⟩
 ·
  refine c_true ha rfl (not_tt c5) ?_
  refine wp_seq ?_
  refine p_beginL [0, 1] ?_
  refine p_run [(0, 8, iv 0), (1, 9, .bool false)] ha fun a ha => ?_
  refine p_end ?_
  refine then_n ?_
  refine wp_ret ?_
  refine then_r ?_
  refine end_res2 ha (by kernel_rfl) (resT (t := 8) ha rfl) (resT (t := 9) ha rfl) ?_
  have hE : triesP l f arg fuel = (0, false) := by unfold triesP; rw [if_neg (by rw [c5]; decide)]
  rw [hE]
  exact ⟨rfl, Sat.rest [_] hS⟩
theorem spec_TriesNeeded_sat {w0 w : World} {Rs : List Asn} {s : Sl} {l : List (List ST)} {f arg fuel : Int} (hS : Sat w0 w Rs) (hr : RdP w s l) (hf : Fits l) :
  Calls Try.prog 25 #[.agg #[.slice s.A s.n s.c], iv f, iv arg, iv fuel] w (Ret fun r w' => r = .tuple #[.int .i64 ((triesP l f arg fuel).1), .bool ((triesP l f arg fuel).2)] ∧ Sat w0 w' Rs) := lift0 hS (spec_TriesNeeded_sat0 hr hf)
end Go.Proofs.Ytdbbafepjgnmeaa.G
end
section
namespace Go.Proofs.Ytdbbafepjgnmeaa.G
open Go.RowKit Go.Proofs.Ytdbbafepjgnmeaa.SX Go.Proofs.YtdbbafepjgnmeaaW.PrintWords Go.Proofs.YtdbbafepjgnmeaaW.PrintLast Go.Proofs.YtdbbafepjgnmeaaW.PrintMore
set_option linter.unusedVariables false
set_option linter.unusedSimpArgs false
theorem code7 : Try.f7.body = some (Code.seq (Code.region 0 (regOf Try.f7 0) false) (Code.seq (Code.region 1 (regOf Try.f7 1) false) (Code.seq (Code.region 2 (regOf Try.f7 2) false) (Code.seq (Code.seq (Code.region 3 (regOf Try.f7 3) false) (Code.cond (Operand.tmp 19) (Code.seq (Code.region 4 (regOf Try.f7 4) false) Code.ret) Code.skip)) (Code.seq (Code.region 5 (regOf Try.f7 5) false) (Code.seq (Code.region 6 (regOf Try.f7 6) false) (Code.seq (Code.region 7 (regOf Try.f7 7) false) (Code.seq (Code.seq (Code.region 8 (regOf Try.f7 8) false) (Code.cond (Operand.tmp 46) (Code.seq (Code.region 9 (regOf Try.f7 9) false) Code.ret) Code.skip)) (Code.seq (Code.seq (Code.region 10 (regOf Try.f7 10) true) (Code.cond (Operand.tmp 51) (Code.seq (Code.region 11 (regOf Try.f7 11) false) Code.ret) Code.skip)) (Code.seq (Code.region 12 (regOf Try.f7 12) false) Code.ret)))))))))) := by kernel_rfl
set_option maxRecDepth 20000 in
set_option maxHeartbeats 1000000 in
theorem law7_walk (w0 : World) (s0 : Sl) (l0 : List (List LT)) (f : Int) (arg : Int) (fuel : Int) (hr0 : RdA w0 s0 l0) :
  Calls Try.prog 7 #[.agg #[.slice s0.A s0.n s0.c], iv f, iv arg, iv fuel] w0 (Ret fun r w' => r = .bool true ∧ Below w0.heap.size w0 w') := by
 have hS : Sat w0 w0 [] := Sat.start w0
 refine enter (n := 52) Try.func7 code7 (by kernel_rfl) (Nat.le_of_ble_eq_true rfl) (fun a ha => ?_)
 replace ha : Has 52 [(0, .agg #[.slice s0.A s0.n s0.c]), (1, iv f), (2, iv arg), (3, iv fuel)] a := ha
 refine wp_seq ?_
 refine p_beginL [0, 1] ?_
 refine p_op (o_new (cs := [.slice s0.A s0.n s0.c]) (T := 24) (fun b => .pointer (some ⟨b, 0, none⟩)) ha (by decide) (iAt (op := (Op.box 24 (Operand.tmp 0))) (d := some 4) (ty := 0)) (by kernel_rfl) hS (fun _ => by kernel_rfl) fun b1 w a hb2 hS ha => ?_)
 refine p_run [(1, 8, .bool false)] ha fun a ha => ?_
 refine p_end ?_
 refine then_n ?_
 refine wp_seq ?_
 refine p_beginL [0] ?_
 refine p_run [(0, 9, iv 1048576)] ha fun a ha => ?_
 refine p_end ?_
 refine then_n ?_
 refine wp_seq ?_
 refine p_beginL [0, 1, 2, 3] ?_
 refine p_val ha (by decide) (v_loadW ha (iAt (op := (Op.load 24 (Operand.tmp 4))) (d := some 15) (ty := 24)) rfl (by kernel_rfl) (fun _ hw => by rw [hw]; exact hS.blk 0 rfl)) (fun a ha => ?_)
 refine p_run [(1, 16, iv 1048576)] ha fun a ha => ?_
 refine p_op (o_ret ha (by decide) (iAt (op := (Op.call { callee := (Callee.value (Operand.func 13)), args := #[(Operand.tmp 15), (Operand.tmp 16)], argTypes := #[24, 3] })) (d := some 17) (ty := 3)) rfl Try.func13 (by kernel_rfl) (szProgram_sat hS (hr0.sat hS) (by omega) (by omega)) fun v3 w a hp4 ha => ?_)
 obtain ⟨rfl, hS⟩ := hp4
 refine p_run [(3, 9, iv (szP l0 1048576))] ha fun a ha => ?_
 refine p_end ?_
 refine then_n ?_
 refine wp_seq ?_
 refine wp_seq ?_
 refine p_beginL [0, 1] ?_
 refine p_run [(0, 18, iv (szP l0 1048576)), (1, 19, .bool (decide ((szP l0 1048576) < 0)))] ha fun a ha => ?_
 refine p_end ?_
 refine then_n ?_
 by_cases c5 : (szP l0 1048576) < 0
 ·
  refine c_true ha rfl (decide_eq_true c5) ?_
  refine wp_seq ?_
  refine p_beginL [0] ?_
  refine p_run [(0, 8, .bool true)] ha fun a ha => ?_
  refine p_end ?_
  refine then_n ?_
  refine wp_ret ?_
  refine then_r ?_
  refine end_res1 ha (by kernel_rfl) (resT (t := 8) ha rfl) ?_
  exact ⟨rfl, hS.below⟩
 ·
  have hf : Fits l0 := by have h8 : 0 ≤ szP l0 1048576 := (by omega); have h9 := szP_ok l0 1048576 h8; exact ⟨by omega, by omega⟩
  refine c_false ha rfl (decide_eq_false c5) ?_
  refine wp_skip ?_
  refine then_n ?_
  refine wp_seq ?_
  refine p_beginL [0, 1, 2, 3, 4, 5, 6, 7, 8, 9, 10] ?_
  refine p_val ha (by decide) (v_loadW ha (iAt (op := (Op.load 24 (Operand.tmp 4))) (d := some 21) (ty := 24)) rfl (by kernel_rfl) (fun _ hw => by rw [hw]; exact hS.blk 0 rfl)) (fun a ha => ?_)
  refine p_op (o_ret ha (by decide) (iAt (op := (Op.call { callee := (Callee.value (Operand.func 15)), args := #[(Operand.tmp 21)], argTypes := #[24] })) (d := some 22) (ty := 31)) rfl Try.func15 (by kernel_rfl) (toProgram_sat hS (hr0.sat hS) hf) fun v6 w a hp7 ha => ?_)
  obtain ⟨s1, rfl, hS⟩ := hp7
  refine p_run [(2, 23, iv f), (3, 24, iv arg), (4, 25, iv fuel)] ha fun a ha => ?_
  refine p_op (o_ret ha (by decide) (iAt (op := (Op.call { callee := (Callee.value (Operand.func 25)), args := #[(Operand.tmp 22), (Operand.tmp 23), (Operand.tmp 24), (Operand.tmp 25)], argTypes := #[31, 3, 3, 3] })) (d := some 26) (ty := 36)) rfl Try.func25 (by kernel_rfl) (spec_TriesNeeded_sat hS (hS.rdS 0 rfl) (toP_fits hf)) fun v8 w a hp9 ha => ?_)
  obtain ⟨rfl, hS⟩ := hp9
  refine p_run [(6, 20, .tuple #[iv ((triesP (toP l0) f arg fuel).1), .bool ((triesP (toP l0) f arg fuel).2)]), (7, 27, iv ((triesP (toP l0) f arg fuel).1)), (8, 28, .bool ((triesP (toP l0) f arg fuel).2)), (9, 10, iv ((triesP (toP l0) f arg fuel).1)), (10, 11, .bool ((triesP (toP l0) f arg fuel).2))] ha fun a ha => ?_
  refine p_end ?_
  refine then_n ?_
  refine wp_seq ?_
  refine p_beginL [0, 1, 2, 3] ?_
  refine p_val ha (by decide) (v_loadW ha (iAt (op := (Op.load 24 (Operand.tmp 4))) (d := some 29) (ty := 24)) rfl (by kernel_rfl) (fun _ hw => by rw [hw]; exact hS.blk 1 rfl)) (fun a ha => ?_)
  refine p_op (o_ret ha (by decide) (iAt (op := (Op.call { callee := (Callee.value (Operand.func 15)), args := #[(Operand.tmp 29)], argTypes := #[24] })) (d := some 30) (ty := 31)) rfl Try.func15 (by kernel_rfl) (toProgram_sat hS (hr0.sat hS) hf) fun v10 w a hp11 ha => ?_)
  obtain ⟨s2, rfl, hS⟩ := hp11
  refine p_op (o_new (cs := [.slice none 0 0]) (T := 31) (fun b => .pointer (some ⟨b, 0, none⟩)) ha (by decide) (iAt (op := (Op.alloc 31)) (d := some 12) (ty := 0)) (by kernel_rfl) hS (fun _ => by kernel_rfl) fun b12 w a hb13 hS ha => ?_)
  refine p_op (o_storeAgg 0 ha (iAt (op := (Op.store 31 (Operand.tmp 12) (Operand.tmp 30))) (ty := 0)) rfl rfl rfl (by kernel_rfl) hS rfl (Nat.le_of_ble_eq_true rfl) rfl fun w a hS ha => ?_)
  refine p_end ?_
  refine then_n ?_
  refine wp_seq ?_
  refine p_beginL [0, 1, 2, 3, 4, 5, 6, 7, 8, 9] ?_
  refine p_val ha (by decide) (v_loadW ha (iAt (op := (Op.load 31 (Operand.tmp 12))) (d := some 32) (ty := 31)) rfl (by kernel_rfl) (fun _ hw => by rw [hw]; exact hS.blk 0 rfl)) (fun a ha => ?_)
  refine p_run [(1, 33, iv f), (2, 34, iv arg), (3, 35, iv fuel)] ha fun a ha => ?_
  refine p_op (o_ret ha (by decide) (iAt (op := (Op.call { callee := (Callee.value (Operand.func 26)), args := #[(Operand.tmp 32), (Operand.tmp 33), (Operand.tmp 34), (Operand.tmp 35)], argTypes := #[31, 3, 3, 3] })) (d := some 36) (ty := 36)) rfl Try.func26 (by kernel_rfl) (impl_TriesNeeded_sat hS (hS.rdS 1 rfl) (toP_fits hf)) fun v14 w a hp15 ha => ?_)
  obtain ⟨rfl, hS⟩ := hp15
  refine p_run [(5, 31, .tuple #[iv ((triesP (toP l0) f arg fuel).1), .bool ((triesP (toP l0) f arg fuel).2)]), (6, 37, iv ((triesP (toP l0) f arg fuel).1)), (7, 38, .bool ((triesP (toP l0) f arg fuel).2)), (8, 13, iv ((triesP (toP l0) f arg fuel).1)), (9, 14, .bool ((triesP (toP l0) f arg fuel).2))] ha fun a ha => ?_
  refine p_end ?_
  replace ha := ha.as [(4, ptr b1 0), (8, .bool false), (10, iv ((triesP (toP l0) f arg fuel).1)), (11, .bool ((triesP (toP l0) f arg fuel).2)), (12, ptr b12 0), (13, iv ((triesP (toP l0) f arg fuel).1)), (14, .bool ((triesP (toP l0) f arg fuel).2))] rfl
  refine then_n ?_
  refine wp_seq ?_
  refine wp_seq ?_
  refine p_beginL [0, 1, 2, 3, 4, 5, 6, 7] ?_
  refine p_run [(0, 39, iv ((triesP (toP l0) f arg fuel).1)), (1, 40, iv ((triesP (toP l0) f arg fuel).1))] ha fun a ha => ?_
  refine p_val (v := .bool false) ha (by decide) ((v_pure (v := .bool (!(decide ((triesP (toP l0) f arg fuel).1 = (triesP (toP l0) f arg fuel).1)))) ha (iAt (op := (Op.binOp BinOp.neq 3 (Operand.tmp 39) (Operand.tmp 40) 3)) (d := some 41) (ty := 4)) (by kernel_rfl) (fun _ => by kernel_rfl)).as (by simp)) (fun a ha => ?_)
  refine p_run [(3, 42, .bool false), (4, 43, .bool ((triesP (toP l0) f arg fuel).2)), (5, 44, .bool ((triesP (toP l0) f arg fuel).2))] ha fun a ha => ?_
  refine p_val (v := .bool false) ha (by decide) ((v_pure (v := .bool (!(((triesP (toP l0) f arg fuel).2) == ((triesP (toP l0) f arg fuel).2)))) ha (AtG.here (gd := 42) ⟨(by kernel_rfl : ((regOf Try.f7 8)[6]?).map spec = some ((Op.binOp BinOp.neq 4 (Operand.tmp 43) (Operand.tmp 44) 4), some 45, 4, some (3, false))), by kernel_rfl⟩ ha rfl) (by kernel_rfl) (fun _ => by kernel_rfl)).as (by simp)) (fun a ha => ?_)
  refine p_run [(7, 46, .bool false)] ha fun a ha => ?_
  refine p_end ?_
  refine then_n ?_
  refine c_false ha rfl rfl ?_
  refine wp_skip ?_
  refine then_n ?_
  refine wp_seq ?_
  refine wp_seq ?_
  refine d_startP 5 5 (hS.pickN 4 [0, 3] (by decide) rfl) hS fun w hS => ?_
  refine d_val (i := 0) ha (by decide) (v_loadW ha (iAt (op := (Op.load 31 (Operand.tmp 12))) (d := some 47) (ty := 31)) rfl (by kernel_rfl) (fun _ hw => hw.blk 0 rfl)) (hS.pickN 4 [0, 3] (by decide) rfl) (by kernel_rfl) (by kernel_rfl) (pk_then (pk_then (pk_body))) fun a ha => ?_
  refine d_val (i := 1) ha (by decide) (v_loadW ha (iAt (op := (Op.load 24 (Operand.tmp 4))) (d := some 48) (ty := 24)) rfl (by kernel_rfl) (fun _ hw => hw.blk 1 rfl)) (hS.pickN 4 [0, 3] (by decide) rfl) (by kernel_rfl) (by kernel_rfl) (pk_then (pk_then (pk_body))) fun a ha => ?_
  refine d_one (i := 2) (by kernel_rfl) (o_ret ha (by decide) (iAt (op := (Op.call { callee := (Callee.value (Operand.func 15)), args := #[(Operand.tmp 48)], argTypes := #[24] })) (d := some 49) (ty := 31)) rfl Try.func15 (by kernel_rfl) (toProgram_sat hS (hr0.sat hS) hf) fun v16 w a hp17 ha => ?_)
  obtain ⟨s3, rfl, hS⟩ := hp17
  refine ⟨.inr (hS.pickN 5 [1, 4] (by decide) rfl), ?_⟩
  refine d_one (i := 3) (by kernel_rfl) (o_ret ha (by decide) (iAt (op := (Op.call { callee := (Callee.value (Operand.func 18)), args := #[(Operand.tmp 47), (Operand.tmp 49)], argTypes := #[31, 31] })) (d := some 50) (ty := 4)) rfl Try.func18 (by kernel_rfl) (eqP_sat hS (hS.rdS 2 rfl) (hS.rdS 0 rfl) (toP_fits hf)) fun v18 w a hp19 ha => ?_)
  obtain ⟨rfl, hS⟩ := hp19
  refine ⟨.inr (hS.pickN 5 [1, 4] (by decide) rfl), ?_⟩
  refine d_run (k := 0) [(4, 51, .bool false)] ha (.inr (hS.pickN 5 [1, 4] (by decide) rfl)) (pk_then (pk_then (pk_body))) fun a ha => ?_
  refine d_end (by kernel_rfl) ?_ _
  replace ha := ha.as [(8, .bool false), (51, .bool false)] rfl
  refine then_n ?_
  refine c_false ha rfl rfl ?_
  refine wp_skip ?_
  refine then_n ?_
  refine wp_seq ?_
  refine p_beginL [0] ?_
  refine p_run [(0, 8, .bool true)] ha fun a ha => ?_
  refine p_end ?_
  refine then_n ?_
  refine wp_ret ?_
  refine end_res1 ha (by kernel_rfl) (resT (t := 8) ha rfl) ?_
  exact ⟨rfl, hS.below⟩
end Go.Proofs.Ytdbbafepjgnmeaa.G
end
