/- What the claim FnExactErrorsOfRun rests on, part 14 of 22; the last part proves it: for every input the law answers true, and its arguments read behind the call as before it. No condition. -/
import Derived.Test.YtcbijhgepdedpaaProg
import Derived.Test.YtcbijhgepdedpaaQErrorsOfRun9
import Derived.Test.YtcbijhgepdedpaaQErrorsOfRun12
set_option linter.unusedSimpArgs false
set_option linter.unusedVariables false
set_option maxRecDepth 20000
set_option maxHeartbeats 1000000
namespace Go.Proofs.Ytcbijhgepdedpaa
namespace SX
open Go.RowKit
def cellsE (e : Int × Int × Int) : List Value := [.int .i64 e.1, .int .i64 e.2.1, .int .i64 e.2.2]
def cellsC (c : CallI) : List Value := [.int .i64 c.fn, .int .i64 c.par, .bool c.dfr, .int .i64 c.en, .int .i64 c.val, .int .i64 c.arg]
abbrev PanS := PanI × Sl
def cellsP (x : PanS) : List Value := [.int .i64 x.1.call, .int .i64 x.1.fn, .int .i64 x.1.value, .int .i64 x.1.depth, .int .i64 x.1.fate, .int .i64 x.1.by_, .int .i64 x.1.last, .bool x.1.again, x.2.v]
def cellsR (e : Int × Int) : List Value := [.int .i64 e.1, .int .i64 e.2]
def encE (l : List (Int × Int × Int)) : List Value := l.flatMap cellsE
def encC (l : List CallI) : List Value := l.flatMap cellsC
def encP (l : List PanS) : List Value := l.flatMap cellsP
def encR (l : List (Int × Int)) : List Value := l.flatMap cellsR
theorem zU (x : Int × Int × Int) : (cellsE x).length = 3 := rfl
theorem zG (x : CallI) : (cellsC x).length = 6 := rfl
theorem xK (x : PanS) : (cellsP x).length = 9 := rfl
theorem yG (x : Int × Int) : (cellsR x).length = 2 := rfl
theorem encE_length (l : List (Int × Int × Int)) : (encE l).length = l.length * 3 := flat_length zU l
theorem encC_length (l : List CallI) : (encC l).length = l.length * 6 := flat_length zG l
theorem encP_length (l : List PanS) : (encP l).length = l.length * 9 := flat_length xK l
theorem encR_length (l : List (Int × Int)) : (encR l).length = l.length * 2 := flat_length yG l
theorem encE_snoc (l : List (Int × Int × Int)) (k f v : Int) : encE l ++ [.int .i64 k, .int .i64 f, .int .i64 v] = encE (l ++ [(k, f, v)]) := by simp [encE, cellsE]
theorem encC_snoc (l : List CallI) (fn par : Int) (dfr : Bool) (en val arg : Int) : encC l ++ [.int .i64 fn, .int .i64 par, .bool dfr, .int .i64 en, .int .i64 val, .int .i64 arg] = encC (l ++ [⟨fn, par, dfr, en, val, arg⟩]) := by simp [encC, cellsC]
theorem encP_snoc (l : List PanS) (c fn v d fa b la : Int) (ag : Bool) : encP l ++ [.int .i64 c, .int .i64 fn, .int .i64 v, .int .i64 d, .int .i64 fa, .int .i64 b, .int .i64 la, .bool ag, .slice none 0 0] = encP (l ++ [(⟨c, fn, v, d, fa, b, la, ag, []⟩, ⟨none, 0, 0⟩)]) := by simp [encP, cellsP]
theorem encR_snoc (l : List (Int × Int)) (x y : Int) : encR l ++ [.int .i64 x, .int .i64 y] = encR (l ++ [(x, y)]) := by simp [encR, cellsR]
def unwA (x : PanS) : Asn := row x.2.v 3 1 (encI x.1.unw)
def yQ (us : List PanS) : List Asn := us.map unwA
structure MSl where
 tr : Sl
 ow : Sl
 ca : Sl
 pa : Sl
 re : Sl
 us : List PanS
 bp : Nat
def mblk (pv : Sl) (fuel : Int) (m : MS) (s : MSl) : List Value :=
 [pv.v, .int .i64 fuel, .int .i64 m.made, .int .i64 m.shared, .int .i64 m.depth, .int .i64 m.deepest, s.tr.v, s.ow.v, s.ca.v, s.pa.v, s.re.v, .map (some s.bp), .int .i64 0, .int .i64 0, .slice none 0 0, .int .i64 0]
def mrest (m : MS) (s : MSl) : List Asn :=
  [row s.tr.v 57 3 (encE m.trace), row s.ow.v 3 1 (encI m.owners), row s.ca.v 147 6 (encC m.calls),
   row s.pa.v 113 9 (encP s.us), jW (yQ s.us), row s.re.v 204 3 (encE m.recs), yY s.bp m.places]
def mchL (b : Nat) (pv : Sl) (fuel : Int) (m : MS) (s : MSl) : List Asn := blk b (mblk pv fuel m s) 91 :: mrest m s
abbrev MB (b : Nat) (pv : Sl) (fuel made shared depth deepest : Int) (tr ow ca pa re : Sl) (bp : Nat) : Asn := SX.blk b [.slice pv.A pv.n pv.c, .int .i64 fuel, .int .i64 made, .int .i64 shared, .int .i64 depth, .int .i64 deepest, .slice tr.A tr.n tr.c, .slice ow.A ow.n ow.c, .slice ca.A ca.n ca.c, .slice pa.A pa.n pa.c, .slice re.A re.n re.c, .map (some bp), .int .i64 0, .int .i64 0, .slice none 0 0, .int .i64 0] 91
abbrev FB (b : Nat) (id fn r0 r1 r2 r3 : Int) (s : Sl) (pv : Value) (dfr cnt lvg : Bool) (en pan : Int) : Asn := SX.blk b [.int .i64 id, .int .i64 fn, .int .i64 r0, .int .i64 r1, .int .i64 r2, .int .i64 r3, .slice s.A s.n s.c, pv, .bool dfr, .bool cnt, .bool lvg, .int .i64 en, .int .i64 pan] 143
abbrev rE (s : Sl) (l : List (Int × Int × Int)) : Asn := SX.row (.slice s.A s.n s.c) 57 3 (encE l)
abbrev rI (s : Sl) (l : List Int) : Asn := SX.row (.slice s.A s.n s.c) 3 1 (encI l)
abbrev rC (s : Sl) (l : List CallI) : Asn := SX.row (.slice s.A s.n s.c) 147 6 (encC l)
abbrev rP (s : Sl) (l : List PanS) : Asn := SX.row (.slice s.A s.n s.c) 113 9 (encP l)
abbrev rV (s : Sl) (l : List (Int × Int × Int)) : Asn := SX.row (.slice s.A s.n s.c) 204 3 (encE l)
abbrev rQ (s : Sl) (l : List (Int × Int)) : Asn := SX.row (.slice s.A s.n s.c) 175 2 (encR l)
def mch (b : Nat) (pv : Sl) (fuel : Int) (m : MS) : Asn := exA fun s : { s : MSl // s.us.map (·.1) = m.panics } => jW (mchL b pv fuel m s.1)
def fblk (f : FS) (pv : Value) (s : Sl) : List Value :=
 [.int .i64 f.id, .int .i64 f.fn, .int .i64 f.r0, .int .i64 f.r1, .int .i64 f.r2, .int .i64 f.r3, s.v, pv, .bool f.dfr, .bool f.cnt, .bool f.lvg, .int .i64 f.en, .int .i64 f.pan]
def frmL (b : Nat) (f : FS) (pv : Value) (s : Sl) : List Asn := [blk b (fblk f pv s) 143, row s.v 175 2 (encR f.runs)]
def frm (b : Nat) (f : FS) (pv : Value) : Asn := exA fun s : Sl => jW (frmL b f pv s)
def qV (pv qv : Value) : Option FS → Asn
 | none => fact (pv = .pointer none)
 | some q => exA fun b : { b : Nat // pv = .pointer (some ⟨b, 0, none⟩) } => frm b.1 q qv
def qX (p : Option FS) (o : Int) : Option FS := p.map fun q => { q with r1 := o }
section
variable {w0 w : World} {Rs : List Asn}
theorem Sat.openM {b : Nat} {pv : Sl} {fuel : Int} {m : MS} (h : Sat w0 w (mch b pv fuel m :: Rs)) : ∃ s : MSl, s.us.map (·.1) = m.panics ∧ Sat w0 w (mchL b pv fuel m s ++ Rs) := by
 obtain ⟨⟨s, hs⟩, h⟩ := h.open_ 0 rfl
 exact ⟨s, hs, h.split⟩
theorem Sat.shutM {b : Nat} {pv : Sl} {fuel : Int} {m : MS} (s : MSl) (hs : s.us.map (·.1) = m.panics) (h : Sat w0 w (mchL b pv fuel m s ++ Rs)) : Sat w0 w (mch b pv fuel m :: Rs) := h.merge.shut (R := fun s : { s : MSl // s.us.map (·.1) = m.panics } => jW (mchL b pv fuel m s.1)) ⟨s, hs⟩ 0 rfl
theorem Sat.openF {b : Nat} {f : FS} {pv : Value} (h : Sat w0 w (frm b f pv :: Rs)) : ∃ s : Sl, Sat w0 w (frmL b f pv s ++ Rs) := by
 obtain ⟨s, h⟩ := h.open_ 0 rfl
 exact ⟨s, h.split⟩
theorem Sat.shutF {b : Nat} {f : FS} {pv : Value} (s : Sl) (h : Sat w0 w (frmL b f pv s ++ Rs)) : Sat w0 w (frm b f pv :: Rs) := h.merge.shut (R := fun s : Sl => jW (frmL b f pv s)) s 0 rfl
theorem Sat.openPar {pv qv : Value} {q : FS} (h : Sat w0 w (qV pv qv (some q) :: Rs)) : ∃ b, pv = .pointer (some ⟨b, 0, none⟩) ∧ Sat w0 w (frm b q qv :: Rs) := by
 obtain ⟨⟨b, hv⟩, h⟩ := h.open_ 0 rfl
 exact ⟨b, hv, h⟩
theorem Sat.shutPar {b : Nat} {qv : Value} {q : FS} (h : Sat w0 w (frm b q qv :: Rs)) : Sat w0 w (qV (.pointer (some ⟨b, 0, none⟩)) qv (some q) :: Rs) :=
 h.shut (R := fun x : { x : Nat // Value.pointer (some ⟨b, 0, none⟩) = .pointer (some ⟨x, 0, none⟩) } => frm x.1 q qv) ⟨b, rfl⟩ 0 rfl
theorem Sat.openMF {b c : Nat} {pv : Sl} {fuel : Int} {m : MS} {f : FS} {v : Value} (h : Sat w0 w (mch b pv fuel m :: frm c f v :: Rs)) : ∃ (s : MSl) (t : Sl), s.us.map (·.1) = m.panics ∧ Sat w0 w (mchL b pv fuel m s ++ (frmL c f v t ++ Rs)) := by
 obtain ⟨s, hs, h1⟩ := h.openM
 obtain ⟨t, h2⟩ := h1.front.openF
 exact ⟨s, t, hs, h2.comm2⟩
theorem Sat.shutF1 {c : Nat} {f : FS} {v : Value} {A : Asn} (t : Sl) (h : Sat w0 w (A :: (frmL c f v t ++ Rs))) : Sat w0 w (A :: frm c f v :: Rs) := Sat.back (l := [A]) (Sat.shutF t (Sat.comm2 (l := [A]) h))
theorem Sat.openF1 {c : Nat} {f : FS} {v : Value} {A : Asn} (h : Sat w0 w (A :: frm c f v :: Rs)) : ∃ t : Sl, Sat w0 w (A :: (frmL c f v t ++ Rs)) := by
 obtain ⟨t, h1⟩ := (Sat.front (l := [A]) h).openF
 exact ⟨t, Sat.comm2 (k := [A]) h1⟩
theorem Sat.openMFF {b c d : Nat} {pv : Sl} {fuel : Int} {m : MS} {f g : FS} {v u : Value} (h : Sat w0 w (mch b pv fuel m :: frm c f v :: frm d g u :: Rs)) : ∃ (s : MSl) (t t' : Sl), s.us.map (·.1) = m.panics ∧ Sat w0 w (mchL b pv fuel m s ++ (frmL c f v t ++ (frmL d g u t' ++ Rs))) := by
 obtain ⟨s, t, hs, h1⟩ := h.openMF
 have h2 : Sat w0 w ((mchL b pv fuel m s ++ frmL c f v t) ++ frm d g u :: Rs) := by simpa using h1
 obtain ⟨t', h3⟩ := h2.front.openF
 exact ⟨s, t, t', hs, by simpa using h3.comm2⟩
end
theorem us_get {us : List PanS} {l : List PanI} (h : us.map (·.1) = l) {i : Int} (h0 : 0 ≤ i) (h1 : i < l.length) : ∃ x : PanS, us[i.toNat]? = some x := get_int us h0 (by rw [← h, List.length_map] at h1; exact h1)
theorem us_val {us : List PanS} {l : List PanI} (h : us.map (·.1) = l) {j : Nat} {x : PanS} (hx : us[j]? = some x) : l[j]? = some x.1 := by rw [← h, List.getElem?_map, hx]; rfl
theorem panVal_us {us : List PanS} {l : List PanI} (h : us.map (·.1) = l) {i : Int} {x : PanS} (hx : us[i.toNat]? = some x) : panVal l i = x.1.value := by
 unfold panVal
 rw [List.getD_eq_getElem?_getD, us_val h hx]
 rfl
theorem panAt_us {us : List PanS} {l : List PanI} (h : us.map (·.1) = l) {i : Int} {x : PanS} (hx : us[i.toNat]? = some x) {g : PanI → PanI} {s : Sl} : (us.set i.toNat (g x.1, s)).map (·.1) = panAt l i g := by
 rw [panAt, modify_get (us_val h hx), ← h, List.map_set]
theorem unwL_set {us : List PanS} {j : Nat} {x y : PanS} (hx : us[j]? = some x) (h1 : y.2 = x.2) (h2 : y.1.unw = x.1.unw) : yQ (us.set j y) = yQ us := by
  have e : unwA y = unwA x := by unfold unwA; rw [h1, h2]
  rw [yQ, List.map_set, e]
  apply List.ext_getElem?
  intro i
  rw [List.getElem?_set]
  by_cases h : j = i
  · subst h
    obtain ⟨h3, h4⟩ := List.getElem?_eq_some_iff.1 hx
    simp [yQ, h3, h4]
  · simp [h, yQ]
theorem Sat.unwL_snoc {w0 w : World} {Rs : List Asn} {us : List PanS} {p : PanI} (hp : p.unw = []) (h : Sat w0 w (jW (yQ us) :: Rs)) : Sat w0 w (jW (yQ (us ++ [(p, (⟨none, 0, 0⟩ : Sl))])) :: Rs) := by
 have h1 : Sat w0 w (unwA (p, ⟨none, 0, 0⟩) :: jW (yQ us) :: Rs) := h.new _ rfl rfl rfl (Nat.le_refl _) (fun _ _ => rfl) ⟨fun _ => False, ⟨fun k => by simp [Value.ownBlock], 0, by simp [hp, encI], .inl ⟨rfl, rfl⟩⟩, fun _ h => h.elim⟩
 have h2 := h1.gainLast
 simpa [yQ] using h2
instance : Inhabited PanI := ⟨PanI.zero⟩
instance : Inhabited Sl := ⟨⟨none, 0, 0⟩⟩
structure RdBody (w : World) (s : Sl) (b : List Stp) : Prop where
 len : s.n = b.length
 A : 0 < b.length → s.A = some ⟨bk s, of_ s, none⟩
 k : ∀ (j : Nat) (x : Stp), b[j]? = some x → w.cell? ⟨bk s, of_ s + j * 3, none⟩ = some (.int .i64 x.k)
 a : ∀ (j : Nat) (x : Stp), b[j]? = some x → w.cell? ⟨bk s, of_ s + j * 3 + 1, none⟩ = some (.int .i64 x.a)
 b : ∀ (j : Nat) (x : Stp), b[j]? = some x → w.cell? ⟨bk s, of_ s + j * 3 + 2, none⟩ = some (.int .i64 x.b)
structure RdProg (w : World) (pv : Sl) (sbs : List Sl) (P : List (List Stp)) : Prop where
 len : pv.n = P.length
 A : 0 < P.length → pv.A = some ⟨bk pv, of_ pv, none⟩
 rows : ∀ (i : Nat) (b : List Stp), P[i]? = some b → ∃ s : Sl, sbs[i]? = some s ∧ w.cell? ⟨bk pv, of_ pv + i, none⟩ = some s.v ∧ RdBody w s b
def Keeps (w0 : World) (Rs : List Asn) (φ : World → Prop) : Prop := ∀ w, Sat w0 w Rs → φ w
theorem Keeps.more {w0 : World} {Rs : List Asn} {φ : World → Prop} (h : Keeps w0 Rs φ) (l : List Asn) : Keeps w0 (l ++ Rs) φ := fun w hS => h w (by
 have h1 : Sat w0 w (jW l :: Rs) := hS.merge
 obtain ⟨hb, F, h2, h3, h4⟩ := h1
 exact ⟨hb, fun j b => F (j + 1) b, fun i R hi => h2 (i + 1) R (by simpa using hi), fun i j b hi hj => by have := h3 _ _ b hi hj; omega, fun i b hi => h4 _ b hi⟩)
theorem Keeps.cons {w0 : World} {Rs : List Asn} {φ : World → Prop} (h : Keeps w0 Rs φ) (A : Asn) : Keeps w0 (A :: Rs) φ := h.more [A]
theorem RdProg.body {w0 : World} {Rs : List Asn} {pv : Sl} {sbs : List Sl} {P : List (List Stp)} (h : Keeps w0 Rs (fun w => RdProg w pv sbs P)) {w : World} (hS : Sat w0 w Rs) {i : Nat} {b : List Stp} (hb : P[i]? = some b) :
  ∃ s : Sl, s.n = b.length ∧ (0 < b.length → s.A = some ⟨bk s, of_ s, none⟩) ∧ Keeps w0 Rs (fun w => w.cell? ⟨bk pv, of_ pv + i, none⟩ = some s.v ∧ RdBody w s b) := by
 obtain ⟨s, h1, h2, h3⟩ := (h w hS).rows i b hb
 refine ⟨s, h3.len, h3.A, fun w' hS' => ?_⟩
 obtain ⟨s', k1, k2, k3⟩ := (h w' hS').rows i b hb
 rw [h1] at k1
 injection k1 with k1
 subst k1
 exact ⟨k2, k3⟩
theorem RdBody.load {w : World} {s : Sl} {b : List Stp} (h : RdBody w s b) {j : Nat} {x : Stp} (hx : b[j]? = some x) : (loadVar 98 ⟨bk s, of_ s + j * 3, none⟩).run Try.prog w = .ok (.agg #[.int .i64 x.k, .int .i64 x.a, .int .i64 x.b]) w :=
 run_loadVar_agg (vs := [.int .i64 x.k, .int .i64 x.a, .int .i64 x.b]) (by kernel_rfl) fun i u hu => by
  match i, hu with
  | 0, hu => rw [add0]; rw [← Option.some.inj hu]; exact h.k j x hx
  | 1, hu => rw [add0]; rw [← Option.some.inj hu]; exact h.a j x hx
  | 2, hu => rw [add0]; rw [← Option.some.inj hu]; exact h.b j x hx
  | n + 3, hu => simp at hu
theorem code106 : Try.f106.body = some (cr Try.f106 0 true) := by kernel_rfl
theorem tell_calls (w0 w : World) (Rs : List Asn) (bm : Nat) (pv : Sl) (fuel : Int) (m : MS) (k fn v ow : Int) (hS : Sat w0 w (mch bm pv fuel m :: Rs)) (hl : m.trace.length + m.owners.length ≤ 1000000) :
  Calls Try.prog 106 #[.pointer (some ⟨bm, 0, none⟩), .int .i64 k, .int .i64 fn, .int .i64 v, .int .i64 ow] w (Ret fun r w' => r = .tuple #[] ∧ Sat w0 w' (mch bm pv fuel (m.tell k fn v ow) :: Rs)) := by
 obtain ⟨s, hs, hS⟩ := hS.openM
 replace hS : Sat w0 w ((MB bm pv fuel m.made m.shared m.depth m.deepest s.tr s.ow s.ca s.pa s.re s.bp) :: (rE s.tr m.trace) :: (rI s.ow m.owners) :: (rC s.ca m.calls) :: (rP s.pa s.us) :: (jW (yQ s.us)) :: (rV s.re m.recs) :: (yY s.bp m.places) :: Rs) := hS
 refine enter (n := 33) Try.func106 code106 (by kernel_rfl) (Nat.le_of_ble_eq_true rfl) (fun a ha => ?_)
 replace ha : Has 33 [(0, ptr bm 0), (1, iv k), (2, iv fn), (3, iv v), (4, iv ow)] a := ha
 refine xY 21 25 (hS.pickN 8 [0]) hS fun w hS => ?_
 refine jK (k := 20) [(0, 10, ptr bm 0), (1, 11, ptr bm 0), (2, 12, ptr bm 0), (3, 13, ptr bm 0), (4, 14, ptr bm 6)] ha (.inr (hS.pickN 8 [0])) fun a ha => ?_
 refine qW 5 (d := 15) (b := bm) (j := 6) ha (hS.pickN 8 [0]) (fun _ hw => hw.blk 0 rfl) rfl fun a ha => ?_
 refine jK (k := 12) [(6, 16, iv k), (7, 17, iv fn), (8, 18, iv v), (9, 19, .agg #[iv k, iv fn, iv v]), (12, 22, ptr bm 0), (13, 23, ptr bm 0), (14, 24, ptr bm 7)] ha (.inr (hS.pickN 8 [0])) fun a ha => ?_
 refine qW 15 (d := 25) (b := bm) (j := 7) ha (hS.pickN 8 [0]) (fun _ hw => hw.blk 0 rfl) rfl fun a ha => ?_
 refine jK (k := 10) [(16, 26, iv ow)] ha (.inr (hS.pickN 8 [0])) fun a ha => ?_
 refine d_all (rs := [10, 17]) (by kernel_rfl) (by simp) (forall_mem_2 ?_ ?_)
 ·
  refine id (qJ 20 [iv k, iv fn, iv v] 57 (fun b => .slice (some ⟨b, 0, none⟩) 1 1) ha hS fun b1 w a hb2 hS ha => ?_)
  refine ⟨.inr (hS.pickN 9 [1]), ?_⟩
  refine d_all (rs := [11, 17]) (by kernel_rfl) (by simp) (forall_mem_2 ?_ ?_)
  ·
   refine id (o_ap 21 2 0 (encE (m.trace ++ [(k, fn, v)])) ha hS rfl rfl (by rw [encE_length]; simp only [List.length_cons, List.length_nil]; have := hl; omega) (encE_snoc _ _ _ _) fun s6 w a hS hn7 ha => ?_);refine ⟨.inr (hS.pickN 9 [1]), ?_⟩;refine jH 17 (qJ 27 [iv ow] 3 (fun b => .slice (some ⟨b, 0, none⟩) 1 1) ha hS fun b8 w a hb9 hS ha => ?_);refine ⟨.inr (hS.pickN 10 [2]), ?_⟩;refine jH 18 (o_ap 28 4 0 (encI (m.owners ++ [ow])) ha hS rfl rfl (by rw [encI_length]; simp only [List.length_cons, List.length_nil]; have := hl; omega) (encI_snoc _ _) fun s13 w a hS hn14 ha => ?_);refine ⟨.inr (hS.pickN 10 [2]), ?_⟩;refine jK (k := 4) [(19, 29, ptr bm 0), (20, 30, ptr bm 6)] ha (.inr (hS.pickN 10 [2])) fun a ha => ?_;refine jH 21 (qH bm 6 (.slice s6.A s6.n s6.c) 2 ha hS rfl rfl fun w a hS ha => ?_);refine xJ (jK (k := 1) [(22, 31, ptr bm 0), (23, 32, ptr bm 7)] ha (.inl (by kernel_rfl)) fun a ha => ?_);refine jH 24 (qH bm 7 (.slice s13.A s13.n s13.c) 2 ha hS rfl rfl fun w a hS ha => ?_);refine xJ (xX ?_);replace ha := ha.as [] rfl;refine end_none ha (by kernel_rfl) ⟨rfl, ?_⟩;replace hS := hS.pickN 10 [2, 3, 4, 5, 6, 7, 8, 9];exact Sat.shutM (m := m.tell k fn v ow) (⟨s6, s13, s.ca, s.pa, s.re, s.us, s.bp⟩ : MSl) hs hS
  refine id (qJ 27 [iv ow] 3 (fun b => .slice (some ⟨b, 0, none⟩) 1 1) ha hS fun b15 w a hb16 hS ha => ?_)
  refine ⟨.inr (hS.pickN 10 [2]), ?_⟩
  refine jH 11 (o_ap 21 3 1 (encE (m.trace ++ [(k, fn, v)])) ha hS rfl rfl (by rw [encE_length]; simp only [List.length_cons, List.length_nil]; have := hl; omega) (encE_snoc _ _ _ _) fun s20 w a hS hn21 ha => ?_)
  refine ⟨.inr (hS.pickN 10 [2]), ?_⟩
  refine jH 18 (o_ap 28 4 0 (encI (m.owners ++ [ow])) ha hS rfl rfl (by rw [encI_length]; simp only [List.length_cons, List.length_nil]; have := hl; omega) (encI_snoc _ _) fun s25 w a hS hn26 ha => ?_)
  refine ⟨.inr (hS.pickN 10 [2]), ?_⟩
  refine jK (k := 4) [(19, 29, ptr bm 0), (20, 30, ptr bm 6)] ha (.inr (hS.pickN 10 [2])) fun a ha => ?_
  refine jH 21 (qH bm 6 (.slice s20.A s20.n s20.c) 2 ha hS rfl rfl fun w a hS ha => ?_)
  refine xJ (jK (k := 1) [(22, 31, ptr bm 0), (23, 32, ptr bm 7)] ha (.inl (by kernel_rfl)) fun a ha => ?_)
  refine jH 24 (qH bm 7 (.slice s25.A s25.n s25.c) 2 ha hS rfl rfl fun w a hS ha => ?_)
  refine xJ (xX ?_)
  replace ha := ha.as [] rfl
  refine end_none ha (by kernel_rfl) ⟨rfl, ?_⟩
  replace hS := hS.pickN 10 [2, 3, 4, 5, 6, 7, 8, 9]
  exact Sat.shutM (m := m.tell k fn v ow) (⟨s20, s25, s.ca, s.pa, s.re, s.us, s.bp⟩ : MSl) hs hS
 refine id (qJ 27 [iv ow] 3 (fun b => .slice (some ⟨b, 0, none⟩) 1 1) ha hS fun b27 w a hb28 hS ha => ?_)
 refine ⟨.inr (hS.pickN 9 [1]), ?_⟩
 refine jH 10 (qJ 20 [iv k, iv fn, iv v] 57 (fun b => .slice (some ⟨b, 0, none⟩) 1 1) ha hS fun b29 w a hb30 hS ha => ?_)
 refine ⟨.inr (hS.pickN 10 [2]), ?_⟩
 refine jH 11 (o_ap 21 3 0 (encE (m.trace ++ [(k, fn, v)])) ha hS rfl rfl (by rw [encE_length]; simp only [List.length_cons, List.length_nil]; have := hl; omega) (encE_snoc _ _ _ _) fun s34 w a hS hn35 ha => ?_)
 refine ⟨.inr (hS.pickN 10 [2]), ?_⟩
 refine jH 18 (o_ap 28 4 1 (encI (m.owners ++ [ow])) ha hS rfl rfl (by rw [encI_length]; simp only [List.length_cons, List.length_nil]; have := hl; omega) (encI_snoc _ _) fun s39 w a hS hn40 ha => ?_)
 refine ⟨.inr (hS.pickN 10 [2]), ?_⟩
 refine jK (k := 4) [(19, 29, ptr bm 0), (20, 30, ptr bm 6)] ha (.inr (hS.pickN 10 [2])) fun a ha => ?_
 refine jH 21 (qH bm 6 (.slice s34.A s34.n s34.c) 2 ha hS rfl rfl fun w a hS ha => ?_)
 refine xJ (jK (k := 1) [(22, 31, ptr bm 0), (23, 32, ptr bm 7)] ha (.inl (by kernel_rfl)) fun a ha => ?_)
 refine jH 24 (qH bm 7 (.slice s39.A s39.n s39.c) 2 ha hS rfl rfl fun w a hS ha => ?_)
 refine xJ (xX ?_)
 replace ha := ha.as [] rfl
 refine end_none ha (by kernel_rfl) ⟨rfl, ?_⟩
 replace hS := hS.pickN 10 [2, 3, 4, 5, 6, 7, 8, 9]
 exact Sat.shutM (m := m.tell k fn v ow) (⟨s34, s39, s.ca, s.pa, s.re, s.us, s.bp⟩ : MSl) hs hS
theorem code129 : Try.f129.body = some (Code.seq (Code.seq (cr Try.f129 0 false) (Code.cond (Operand.tmp 27) (Code.seq (cr Try.f129 1 true) Code.ret) Code.skip)) (Code.seq (cr Try.f129 2 false) (Code.seq (cr Try.f129 3 true) (Code.seq (cr Try.f129 4 false) (Code.seq (cr Try.f129 5 true) (Code.seq (cr Try.f129 6 false) (Code.seq (cr Try.f129 7 true) (cr Try.f129 8 true)))))))) := by kernel_rfl
theorem recover_some (w0 w : World) (Rs : List Asn) (bm bf bq : Nat) (pv : Sl) (fuel : Int) (m : MS) (f q : FS) (qpv : Value) (r : Int) (x_ : Nat) (hr : r = 0 ∨ r = 1 ∨ r = 2 ∨ r = 3) (hS : Sat w0 w (mch bm pv fuel m :: frm bf f (.pointer (some ⟨bq, 0, none⟩)) :: frm bq q qpv :: Rs)) (hm : OkM fuel m x_) (hq : q.en = 2 → 0 ≤ q.pan ∧ q.pan < m.panics.length) :
    Calls Try.prog 129 #[.pointer (some ⟨bm, 0, none⟩), .pointer (some ⟨bf, 0, none⟩), .int .i64 r] w (Ret fun r_ w' => r_ = .tuple #[] ∧ Sat w0 w' (mch bm pv fuel (zY m f (some q) r).1 :: frm bf (zY m f (some q) r).2 (.pointer (some ⟨bq, 0, none⟩)) :: frm bq q qpv :: Rs)) := by
  obtain ⟨s, t, t', hs, hS⟩ := hS.openMFF
  replace hS : Sat w0 w ((MB bm pv fuel m.made m.shared m.depth m.deepest s.tr s.ow s.ca s.pa s.re s.bp) :: (rE s.tr m.trace) :: (rI s.ow m.owners) :: (rC s.ca m.calls) :: (rP s.pa s.us) :: (jW (yQ s.us)) :: (rV s.re m.recs) :: (yY s.bp m.places) :: (FB bf f.id f.fn f.r0 f.r1 f.r2 f.r3 t (ptr bq 0) f.dfr f.cnt f.lvg f.en f.pan) :: (rQ t f.runs) :: (FB bq q.id q.fn q.r0 q.r1 q.r2 q.r3 t' (qpv) q.dfr q.cnt q.lvg q.en q.pan) :: (rQ t' q.runs) :: Rs) := hS
  obtain ⟨x, hx⟩ : ∃ x : PanS, q.en = 2 → s.us[q.pan.toNat]? = some x := by
    by_cases h : q.en = 2
    · obtain ⟨x, hx⟩ := us_get hs (hq h).1 (hq h).2
      exact ⟨x, fun _ => hx⟩
    · exact ⟨default, fun h' => absurd h' h⟩
  refine enter (n := 110) Try.func129 code129 (by kernel_rfl) (Nat.le_of_ble_eq_true rfl) (fun a ha => ?_)
  replace ha : Has 110 [(0, ptr bm 0), (1, ptr bf 0), (2, iv r)] a := ha
  refine wp_seq (wp_seq (jX [0, 1, 2, 3, 4, 5, 6, 7, 8, 9, 10, 11, 12, 13, 14, 15, 16, 17, 18, 19, 20] (jQ [(0, 7, ptr bf 0), (1, 8, ptr bf 0), (2, 9, ptr bf 8)] ha fun a ha => ?_)))
  refine jU (d := 10) (b := bf) (j := 8) ha (hS.blk 8 rfl) rfl fun a ha => ?_
  refine jQ [(4, 11, .bool (!(f.dfr))), (5, 12, .bool (!(f.dfr)))] ha fun a ha => ?_
  rcases Bool.eq_false_or_eq_true f.dfr with c1 | c1
  ·
    replace ha := ha.turn 10 (.bool true) rfl (congrArg Value.bool c1);replace ha := ha.turn 11 (.bool false) rfl (congrArg Value.bool (zX c1));replace ha := ha.turn 12 (.bool false) rfl (congrArg Value.bool (zX c1));refine jQ [(6, 13, ptr bf 0), (7, 14, ptr bf 0), (8, 15, ptr bf 9)] ha fun a ha => ?_;refine jU (d := 16) (b := bf) (j := 9) ha (hS.blk 8 rfl) rfl fun a ha => ?_;refine jQ [(10, 17, .bool f.cnt), (11, 18, .bool f.cnt)] ha fun a ha => ?_
    rcases Bool.eq_false_or_eq_true f.cnt with c2 | c2
    ·
      replace ha := ha.turn 16 (.bool true) rfl (congrArg Value.bool c2);replace ha := ha.turn 17 (.bool true) rfl (congrArg Value.bool c2);replace ha := ha.turn 18 (.bool true) rfl (congrArg Value.bool c2);refine jQ [(12, 19, undef), (13, 20, undef), (14, 21, undef), (15, 22, undef), (16, 23, undef), (17, 24, undef), (18, 25, undef), (19, 26, undef), (20, 27, .bool true)] ha fun a ha => ?_;refine jY ?_;replace ha := ha.as [(0, ptr bm 0), (1, ptr bf 0), (2, iv r), (27, .bool true)] rfl;refine jJ ?_;refine jG ha rfl rfl ?_;refine wp_seq (xH 6 11 hS fun w hS => ?_);refine jK (k := 6) [(0, 28, ptr bf 0), (1, 29, iv r), (2, 30, ptr bf 0), (3, 31, ptr bf 0), (4, 32, ptr bf 2)] ha (.inr hS) fun a ha => ?_;refine zQ 5 (.pointer (some ⟨bf, 2 + (r : Int).toNat * 1, none⟩)) ha (yV (len := 4) (el := 3) (sz := 1) ha (yU (t := 122) (x := 32) (y := 29) (d := 33)) rfl rfl (by kernel_rfl) (by kernel_rfl) (by have := hr; omega) (by have := hr; omega)) (.inr hS) fun a ha => ?_;refine jK (k := 3) [(7, 34, ptr bf 0), (8, 35, ptr bf 2)] ha (.inr hS) fun a ha => ?_;refine jH 6 (o_store (cs' := [iv f.id, iv f.fn, iv (u4 f.r0 0 0 r), iv (u4 f.r1 0 1 r), iv (u4 f.r2 0 2 r), iv (u4 f.r3 0 3 r), .slice t.A t.n t.c, ptr bq 0, .bool f.dfr, .bool f.cnt, .bool f.lvg, iv f.en, iv f.pan]) 8 ha (zW (op := (Op.store 3 (Operand.tmp 33) (Operand.const (Value.int IntKind.i64 0)))) (ty := 0)) rfl rfl rfl (by kernel_rfl) hS rfl (by have := hr; simp; omega) (by rcases hr with h | h | h | h <;> simp [h, u4]) (fun w a hS ha => ?_));refine xJ (jK (k := 1) [(9, 36, ptr bf 5)] ha (.inl (by kernel_rfl)) fun a ha => ?_);refine jH 10 (qH bf 5 (iv 0) 8 ha hS rfl rfl fun w a hS ha => ?_);refine xJ (xX (jJ (wp_ret (xQ ?_))));refine end_noneR ha (by kernel_rfl) ⟨rfl, ?_⟩;replace hS : Sat w0 w ((MB bm pv fuel m.made m.shared m.depth m.deepest s.tr s.ow s.ca s.pa s.re s.bp) :: (rE s.tr m.trace) :: (rI s.ow m.owners) :: (rC s.ca m.calls) :: (rP s.pa s.us) :: (jW (yQ s.us)) :: (rV s.re m.recs) :: (yY s.bp m.places) :: (FB bf f.id f.fn (u4 f.r0 0 0 r) (u4 f.r1 0 1 r) (u4 f.r2 0 2 r) 0 t (ptr bq 0) f.dfr f.cnt f.lvg f.en f.pan) :: (rQ t f.runs) :: (FB bq q.id q.fn q.r0 q.r1 q.r2 q.r3 t' (qpv) q.dfr q.cnt q.lvg q.en q.pan) :: (rQ t' q.runs) :: Rs) := hS;obtain ⟨m_1, hm_1⟩ : ∃ z_ : MS, z_ = (⟨m.made, m.shared, m.depth, m.deepest, m.trace, m.owners, m.calls, m.panics, m.recs, m.places⟩ : MS) := ⟨_, rfl⟩;replace hS : Sat w0 w ((mch bm pv fuel m_1) :: (FB bf f.id f.fn (u4 f.r0 0 0 r) (u4 f.r1 0 1 r) (u4 f.r2 0 2 r) 0 t (ptr bq 0) f.dfr f.cnt f.lvg f.en f.pan) :: (rQ t f.runs) :: (FB bq q.id q.fn q.r0 q.r1 q.r2 q.r3 t' (qpv) q.dfr q.cnt q.lvg q.en q.pan) :: (rQ t' q.runs) :: Rs) := by rw [hm_1]; exact Sat.shutM (⟨s.tr, s.ow, s.ca, s.pa, s.re, s.us, s.bp⟩ : MSl) (hs) hS
      replace hS : Sat w0 w ((mch bm pv fuel m_1) :: (FB bf f.id f.fn (u4 f.r0 0 0 r) (u4 f.r1 0 1 r) (u4 f.r2 0 2 r) 0 t (ptr bq 0) f.dfr f.cnt f.lvg f.en f.pan) :: (rQ t f.runs) :: (FB bq q.id q.fn q.r0 q.r1 q.r2 q.r3 t' (qpv) q.dfr q.cnt q.lvg q.en q.pan) :: (rQ t' q.runs) :: Rs) := hS
      have hE : (m_1, (⟨f.id, f.fn, (u4 f.r0 0 0 r), (u4 f.r1 0 1 r), (u4 f.r2 0 2 r), 0, f.runs, f.dfr, f.cnt, f.lvg, f.en, f.pan⟩ : FS)) = zY m f (some q) r := by
        have hcr : canRec f (some q) = false := by simp [canRec, c1, c2]
        rw [hm_1]; simp [zY, hcr, recNo, FS.set]
      have hG := Sat.shutF1 (f := (⟨f.id, f.fn, (u4 f.r0 0 0 r), (u4 f.r1 0 1 r), (u4 f.r2 0 2 r), 0, f.runs, f.dfr, f.cnt, f.lvg, f.en, f.pan⟩ : FS)) t hS;rw [← hE];exact Sat.back (l := [_, _]) (Sat.shutF (f := q) t' (Sat.comm2 (l := [_, _]) (k := frmL bq q qpv t') hG))
    replace ha := ha.turn 16 (.bool false) rfl (congrArg Value.bool c2);replace ha := ha.turn 17 (.bool false) rfl (congrArg Value.bool c2);replace ha := ha.turn 18 (.bool false) rfl (congrArg Value.bool c2);refine jQ [(12, 19, ptr bf 0), (13, 20, ptr bf 0), (14, 21, ptr bf 7)] ha fun a ha => ?_;refine jU (d := 22) (b := bf) (j := 7) ha (hS.blk 8 rfl) rfl fun a ha => ?_;refine jQ [(16, 23, ptr bq 0), (17, 24, ptr bq 11)] ha fun a ha => ?_;refine jU (d := 25) (b := bq) (j := 11) ha (hS.blk 10 rfl) rfl fun a ha => ?_;refine jQ [(19, 26, .bool (!(decide (q.en = 2)))), (20, 27, .bool (!(decide (q.en = 2))))] ha fun a ha => ?_;refine jY ?_;replace ha := ha.as [(0, ptr bm 0), (1, ptr bf 0), (2, iv r), (27, .bool (!(decide (q.en = 2))))] rfl;refine jJ ?_
    by_cases c3 : q.en = 2
    ·
      refine jV ha rfl (zX (decide_eq_true c3)) ?_;refine wp_skip (jJ (wp_seq (jX [0, 1, 2, 3] (jQ [(0, 37, ptr bf 0), (1, 38, ptr bf 0), (2, 39, ptr bf 9)] ha fun a ha => ?_))));refine jZ (qH bf 9 (.bool true) 8 ha hS rfl rfl fun w a hS ha => ?_);refine jY (jJ (wp_seq ?_));have hxx := hx c3;have hbd : m.recs.length ≤ 1000 ∧ m.trace.length + m.owners.length ≤ 1000000 := by have := hm.bnd; have := hm.own; have := hm.made1; have := hm.recs; omega
      obtain ⟨hbd, hbt⟩ := hbd;refine xH 13 13 hS fun w hS => ?_;refine jK (k := 10) [(0, 40, ptr bm 0), (1, 41, ptr bm 0), (2, 42, ptr bm 9)] ha (.inr hS) fun a ha => ?_;refine qW 3 (d := 43) (b := bm) (j := 9) ha hS (fun _ hw => hw.blk 0 rfl) rfl fun a ha => ?_;refine jK (k := 6) [(4, 44, ptr bf 0), (5, 45, ptr bf 0), (6, 46, ptr bf 7)] ha (.inr hS) fun a ha => ?_;refine qW 7 (d := 47) (b := bf) (j := 7) ha hS (fun _ hw => hw.blk 8 rfl) rfl fun a ha => ?_;refine jK (k := 3) [(8, 48, ptr bq 0), (9, 49, ptr bq 12)] ha (.inr hS) fun a ha => ?_;refine qW 10 (d := 50) (b := bq) (j := 12) ha hS (fun _ hw => hw.blk 10 rfl) rfl fun a ha => ?_;refine zQ 11 (.pointer (some ⟨bk s.pa, q.pan.toNat * 9, none⟩)) ha (xW (s := s.pa) (el := 113) (sz := 9) (j := q.pan.toNat) ha (yU (t := 87) (x := 43) (y := 50) (d := 51)) rfl rfl (by kernel_rfl) (by kernel_rfl) (hS.rowA (s := s.pa) 4 rfl (by have := (List.getElem?_eq_some_iff.1 hxx).1; rw [encP_length]; omega)) ((Int.toNat_of_nonneg (hq c3).1).symm) (by have h9 := hS.rowL (s := s.pa) (enc := cellsP) 4 xK (by decide) rfl; have := (List.getElem?_eq_some_iff.1 hxx).1; omega)) (.inr hS) fun a ha => ?_;refine jK (k := 0) [(12, 6, .pointer (some ⟨bk s.pa, q.pan.toNat * 9, none⟩))] ha (.inr hS) fun a ha => ?_;refine xX ?_;replace ha := ha.as [(0, ptr bm 0), (1, ptr bf 0), (2, iv r), (6, .pointer (some ⟨bk s.pa, q.pan.toNat * 9, none⟩))] rfl;refine jJ (wp_seq (jX [0, 1, 2, 3] (jQ [(0, 52, .pointer (some ⟨bk s.pa, q.pan.toNat * 9, none⟩)), (1, 53, .pointer (some ⟨bk s.pa, q.pan.toNat * 9, none⟩)), (2, 54, .pointer (some ⟨bk s.pa, q.pan.toNat * 9 + 4, none⟩))] ha fun a ha => ?_)));refine jZ (zZ (s := s.pa) (j := q.pan.toNat * 9 + 4) (xs := encP s.us) (xs' := encP (s.us.set q.pan.toNat (({ x.1 with fate := 1 } : PanI), x.2))) 4 ha (zW (op := (Op.store 3 (Operand.tmp 54) (Operand.const (Value.int IntKind.i64 1)))) (ty := 0)) rfl rfl rfl (by kernel_rfl) hS rfl (by have := (List.getElem?_eq_some_iff.1 hxx).1; rw [encP_length]; omega) ((flat_set (enc := cellsP) (x' := (({ x.1 with fate := 1 } : PanI), x.2)) xK hxx (by decide) rfl)) (fun w a (hS : Sat w0 w ((MB bm pv fuel m.made m.shared m.depth m.deepest s.tr s.ow s.ca s.pa s.re s.bp) :: (rE s.tr m.trace) :: (rI s.ow m.owners) :: (rC s.ca m.calls) :: (rP s.pa (s.us.set q.pan.toNat (({ x.1 with fate := 1 } : PanI), x.2))) :: (jW (yQ s.us)) :: (rV s.re m.recs) :: (yY s.bp m.places) :: (FB bf f.id f.fn f.r0 f.r1 f.r2 f.r3 t (ptr bq 0) f.dfr true f.lvg f.en f.pan) :: (rQ t f.runs) :: (FB bq q.id q.fn q.r0 q.r1 q.r2 q.r3 t' (qpv) q.dfr q.cnt q.lvg q.en q.pan) :: (rQ t' q.runs) :: Rs)) ha => ?_));refine jY (jJ (wp_seq (xH 9 10 hS fun w hS => ?_)));refine jK (k := 5) [(0, 55, ptr bf 0), (1, 56, iv r), (2, 57, .pointer (some ⟨bk s.pa, q.pan.toNat * 9, none⟩)), (3, 58, .pointer (some ⟨bk s.pa, q.pan.toNat * 9, none⟩)), (4, 59, .pointer (some ⟨bk s.pa, q.pan.toNat * 9 + 2, none⟩))] ha (.inr hS) fun a ha => ?_;refine zH 5 (iv x.1.value) ha (zK ha (zV (t := 3) (x := 59) (d := 60) (ty := 3)) rfl (by kernel_rfl) (fun w' hw => ((hw.rdC (s := s.pa) 4 rfl)).cells _ _ ((flat_get (enc := cellsP) (o := 2) xK (set_get hxx (({ x.1 with fate := 1 } : PanI), x.2)) (by decide)).trans rfl))) hS fun a ha => ?_
      refine jK (k := 2) [(6, 61, ptr bf 0), (7, 62, ptr bf 2)] ha (.inr hS) fun a ha => ?_;refine zQ 8 (.pointer (some ⟨bf, 2 + (r : Int).toNat * 1, none⟩)) ha (yV (len := 4) (el := 3) (sz := 1) ha (yU (t := 122) (x := 62) (y := 56) (d := 63)) rfl rfl (by kernel_rfl) (by kernel_rfl) (by have := hr; omega) (by have := hr; omega)) (.inr hS) fun a ha => ?_;refine jH 9 (o_store (cs' := [iv f.id, iv f.fn, iv (u4 f.r0 x.1.value 0 r), iv (u4 f.r1 x.1.value 1 r), iv (u4 f.r2 x.1.value 2 r), iv (u4 f.r3 x.1.value 3 r), .slice t.A t.n t.c, ptr bq 0, .bool f.dfr, .bool true, .bool f.lvg, iv f.en, iv f.pan]) 8 ha (qU (t := 3) (x := 63) (y := 60)) rfl rfl rfl (by kernel_rfl) hS rfl (by have := hr; simp; omega) (by rcases hr with h | h | h | h <;> simp [h, u4]) (fun w a hS ha => ?_));refine xJ (xX (jJ (wp_seq (jX [0, 1, 2, 3, 4] (jQ [(0, 64, ptr bf 0), (1, 65, ptr bf 0), (2, 66, ptr bf 2), (3, 67, ptr bf 5)] ha fun a ha => ?_)))));refine jZ (qH bf 5 (iv 1) 8 ha hS rfl rfl fun w a hS ha => ?_);refine jY ?_;replace ha := ha.as [(0, ptr bm 0), (1, ptr bf 0), (6, .pointer (some ⟨bk s.pa, q.pan.toNat * 9, none⟩))] rfl;refine jJ (wp_seq (xY 28 29 (hS.pickN 12 [0, 8, 10]) hS fun w hS => ?_));refine jK (k := 25) [(0, 68, ptr bm 0), (1, 69, ptr bm 0), (2, 70, ptr bm 0), (3, 71, ptr bm 10)] ha (.inr (hS.pickN 12 [0, 8, 10])) fun a ha => ?_;refine qW 4 (d := 72) (b := bm) (j := 10) ha (hS.pickN 12 [0, 8, 10]) (fun _ hw => hw.blk 0 rfl) rfl fun a ha => ?_;refine jK (k := 21) [(5, 73, ptr bf 0), (6, 74, ptr bf 0), (7, 75, ptr bf 0)] ha (.inr (hS.pickN 12 [0, 8, 10])) fun a ha => ?_;refine qW 8 (d := 76) (b := bf) (j := 0) ha (hS.pickN 12 [0, 8, 10]) (fun _ hw => hw.blk 1 rfl) rfl fun a ha => ?_;refine jK (k := 17) [(9, 77, ptr bf 0), (10, 78, ptr bf 0), (11, 79, ptr bf 7)] ha (.inr (hS.pickN 12 [0, 8, 10])) fun a ha => ?_;refine qW 12 (d := 80) (b := bf) (j := 7) ha (hS.pickN 12 [0, 8, 10]) (fun _ hw => hw.blk 1 rfl) rfl fun a ha => ?_;refine jK (k := 14) [(13, 81, ptr bq 0), (14, 82, ptr bq 0)] ha (.inr (hS.pickN 12 [0, 8, 10])) fun a ha => ?_;refine qW 15 (d := 83) (b := bq) (j := 0) ha (hS.pickN 12 [0, 8, 10]) (fun _ hw => hw.blk 2 rfl) rfl fun a ha => ?_;refine jK (k := 10) [(16, 84, ptr bf 0), (17, 85, ptr bf 0), (18, 86, ptr bf 7)] ha (.inr (hS.pickN 12 [0, 8, 10])) fun a ha => ?_;refine qW 19 (d := 87) (b := bf) (j := 7) ha (hS.pickN 12 [0, 8, 10]) (fun _ hw => hw.blk 1 rfl) rfl fun a ha => ?_;refine jK (k := 7) [(20, 88, ptr bq 0), (21, 89, ptr bq 12)] ha (.inr (hS.pickN 12 [0, 8, 10])) fun a ha => ?_;refine qW 22 (d := 90) (b := bq) (j := 12) ha (hS.pickN 12 [0, 8, 10]) (fun _ hw => hw.blk 2 rfl) rfl fun a ha => ?_;refine jK (k := 5) [(23, 91, .agg #[iv f.id, iv q.id, iv q.pan])] ha (.inr (hS.pickN 12 [0, 8, 10])) fun a ha => ?_;refine jH 24 (qJ 92 [iv f.id, iv q.id, iv q.pan] 204 (fun b => .slice (some ⟨b, 0, none⟩) 1 1) ha hS fun b4 w a hb5 hS ha => ?_);refine ⟨.inr (hS.pickN 13 [1, 9, 11]), ?_⟩;refine jH 25 (o_ap 93 7 0 (encE (m.recs ++ [(f.id, q.id, q.pan)])) ha hS rfl rfl (by rw [encE_length]; simp only [List.length_cons, List.length_nil]; have := hbd; omega) (encE_snoc _ _ _ _) fun s9 w a hS hn10 ha => ?_)
      refine ⟨.inr (hS.pickN 13 [1, 9, 11]), ?_⟩;refine jK (k := 1) [(26, 94, ptr bm 0), (27, 95, ptr bm 10)] ha (.inr (hS.pickN 13 [1, 9, 11])) fun a ha => ?_;refine jH 28 (qH bm 10 (.slice s9.A s9.n s9.c) 1 ha hS rfl rfl fun w a hS ha => ?_);refine xJ (xX ?_);replace ha := ha.as [(0, ptr bm 0), (1, ptr bf 0), (6, .pointer (some ⟨bk s.pa, q.pan.toNat * 9, none⟩))] rfl;refine jJ (xH 13 14 hS fun w hS => ?_);refine jK (k := 10) [(0, 96, ptr bm 0), (1, 97, ptr bf 0), (2, 98, ptr bf 0), (3, 99, ptr bf 1)] ha (.inr hS) fun a ha => ?_;refine qW 4 (d := 100) (b := bf) (j := 1) ha hS (fun _ hw => hw.blk 9 rfl) rfl fun a ha => ?_;refine jK (k := 6) [(5, 101, .pointer (some ⟨bk s.pa, q.pan.toNat * 9, none⟩)), (6, 102, .pointer (some ⟨bk s.pa, q.pan.toNat * 9, none⟩)), (7, 103, .pointer (some ⟨bk s.pa, q.pan.toNat * 9 + 2, none⟩))] ha (.inr hS) fun a ha => ?_;refine zH 8 (iv x.1.value) ha (zK ha (zV (t := 3) (x := 103) (d := 104) (ty := 3)) rfl (by kernel_rfl) (fun w' hw => ((hw.rdC (s := s.pa) 5 rfl)).cells _ _ ((flat_get (enc := cellsP) (o := 2) xK (set_get hxx (({ x.1 with fate := 1 } : PanI), x.2)) (by decide)).trans rfl))) hS fun a ha => ?_;refine jK (k := 2) [(9, 105, ptr bf 0), (10, 106, ptr bf 0), (11, 107, ptr bf 0)] ha (.inr hS) fun a ha => ?_;refine qW 12 (d := 108) (b := bf) (j := 0) ha hS (fun _ hw => hw.blk 9 rfl) rfl fun a ha => ?_;replace hS : Sat w0 w ((SX.blk b4 [iv f.id, iv q.id, iv q.pan] 204) :: (MB bm pv fuel m.made m.shared m.depth m.deepest s.tr s.ow s.ca s.pa s9 s.bp) :: (rE s.tr m.trace) :: (rI s.ow m.owners) :: (rC s.ca m.calls) :: (rP s.pa (s.us.set q.pan.toNat (({ x.1 with fate := 1 } : PanI), x.2))) :: (jW (yQ (s.us.set q.pan.toNat (({ x.1 with fate := 1 } : PanI), x.2)))) :: (rV s9 (m.recs ++ [(f.id, q.id, q.pan)])) :: (yY s.bp m.places) :: (FB bf f.id f.fn (u4 f.r0 x.1.value 0 r) (u4 f.r1 x.1.value 1 r) (u4 f.r2 x.1.value 2 r) 1 t (ptr bq 0) f.dfr true f.lvg f.en f.pan) :: (rQ t f.runs) :: (FB bq q.id q.fn q.r0 q.r1 q.r2 q.r3 t' (qpv) q.dfr q.cnt q.lvg q.en q.pan) :: (rQ t' q.runs) :: Rs) := by have e : yQ (s.us.set q.pan.toNat (({ x.1 with fate := 1 } : PanI), x.2)) = yQ s.us := unwL_set hxx rfl rfl; rw [e]; exact hS
      replace hS := hS.pickN 13 [1, 2, 3, 4, 5, 6, 7, 8, 0, 9, 10, 11, 12];obtain ⟨m_2, hm_2⟩ : ∃ z_ : MS, z_ = (⟨m.made, m.shared, m.depth, m.deepest, m.trace, m.owners, m.calls, (panAt m.panics q.pan (fun z => { z with fate := 1 })), (m.recs ++ [(f.id, q.id, q.pan)]), m.places⟩ : MS) := ⟨_, rfl⟩;replace hS : Sat w0 w ((mch bm pv fuel m_2) :: (SX.blk b4 [iv f.id, iv q.id, iv q.pan] 204) :: (FB bf f.id f.fn (u4 f.r0 x.1.value 0 r) (u4 f.r1 x.1.value 1 r) (u4 f.r2 x.1.value 2 r) 1 t (ptr bq 0) f.dfr true f.lvg f.en f.pan) :: (rQ t f.runs) :: (FB bq q.id q.fn q.r0 q.r1 q.r2 q.r3 t' (qpv) q.dfr q.cnt q.lvg q.en q.pan) :: (rQ t' q.runs) :: Rs) := by rw [hm_2]; exact Sat.shutM (⟨s.tr, s.ow, s.ca, s.pa, s9, (s.us.set q.pan.toNat (({ x.1 with fate := 1 } : PanI), x.2)), s.bp⟩ : MSl) (panAt_us (g := fun z => { z with fate := 1 }) hs hxx) hS
      refine jH 13 (qG 109 (vs := [ptr bm 0, iv 6, iv f.fn, iv x.1.value, iv f.id]) ha (tell_calls w0 w _ bm pv fuel m_2 6 f.fn x.1.value f.id hS (by rw [hm_2]; simp only []; omega)) fun v11 w a hp12 ha => ?_);obtain ⟨rfl, hS⟩ := hp12;refine xJ (xX ?_);replace ha := ha.as [] rfl;refine end_none ha (by kernel_rfl) ⟨rfl, ?_⟩;replace hS := hS.pickN 6 [0, 2, 3, 4, 5]
      have hE : ((m_2.tell 6 f.fn x.1.value f.id), (⟨f.id, f.fn, (u4 f.r0 x.1.value 0 r), (u4 f.r1 x.1.value 1 r), (u4 f.r2 x.1.value 2 r), 1, f.runs, f.dfr, true, f.lvg, f.en, f.pan⟩ : FS)) = zY m f (some q) r := by
        have hcr : canRec f (some q) = true := by simp [canRec, c1, c2, c3]
        rw [hm_2]; simp only [zY, hcr, if_true, recM, recF, FS.set, MS.tell, panVal_us hs hxx]
      have hG := Sat.shutF1 (f := (⟨f.id, f.fn, (u4 f.r0 x.1.value 0 r), (u4 f.r1 x.1.value 1 r), (u4 f.r2 x.1.value 2 r), 1, f.runs, f.dfr, true, f.lvg, f.en, f.pan⟩ : FS)) t hS;rw [← hE];exact Sat.back (l := [_, _]) (Sat.shutF (f := q) t' (Sat.comm2 (l := [_, _]) (k := frmL bq q qpv t') hG))
    refine jG ha rfl (kJ (decide_eq_false c3)) ?_;refine wp_seq (xH 6 11 hS fun w hS => ?_);refine jK (k := 6) [(0, 28, ptr bf 0), (1, 29, iv r), (2, 30, ptr bf 0), (3, 31, ptr bf 0), (4, 32, ptr bf 2)] ha (.inr hS) fun a ha => ?_;refine zQ 5 (.pointer (some ⟨bf, 2 + (r : Int).toNat * 1, none⟩)) ha (yV (len := 4) (el := 3) (sz := 1) ha (yU (t := 122) (x := 32) (y := 29) (d := 33)) rfl rfl (by kernel_rfl) (by kernel_rfl) (by have := hr; omega) (by have := hr; omega)) (.inr hS) fun a ha => ?_;refine jK (k := 3) [(7, 34, ptr bf 0), (8, 35, ptr bf 2)] ha (.inr hS) fun a ha => ?_;refine jH 6 (o_store (cs' := [iv f.id, iv f.fn, iv (u4 f.r0 0 0 r), iv (u4 f.r1 0 1 r), iv (u4 f.r2 0 2 r), iv (u4 f.r3 0 3 r), .slice t.A t.n t.c, ptr bq 0, .bool f.dfr, .bool f.cnt, .bool f.lvg, iv f.en, iv f.pan]) 8 ha (zW (op := (Op.store 3 (Operand.tmp 33) (Operand.const (Value.int IntKind.i64 0)))) (ty := 0)) rfl rfl rfl (by kernel_rfl) hS rfl (by have := hr; simp; omega) (by rcases hr with h | h | h | h <;> simp [h, u4]) (fun w a hS ha => ?_));refine xJ (jK (k := 1) [(9, 36, ptr bf 5)] ha (.inl (by kernel_rfl)) fun a ha => ?_);refine jH 10 (qH bf 5 (iv 0) 8 ha hS rfl rfl fun w a hS ha => ?_);refine xJ (xX (jJ (wp_ret (xQ ?_))));refine end_noneR ha (by kernel_rfl) ⟨rfl, ?_⟩;replace hS : Sat w0 w ((MB bm pv fuel m.made m.shared m.depth m.deepest s.tr s.ow s.ca s.pa s.re s.bp) :: (rE s.tr m.trace) :: (rI s.ow m.owners) :: (rC s.ca m.calls) :: (rP s.pa s.us) :: (jW (yQ s.us)) :: (rV s.re m.recs) :: (yY s.bp m.places) :: (FB bf f.id f.fn (u4 f.r0 0 0 r) (u4 f.r1 0 1 r) (u4 f.r2 0 2 r) 0 t (ptr bq 0) f.dfr f.cnt f.lvg f.en f.pan) :: (rQ t f.runs) :: (FB bq q.id q.fn q.r0 q.r1 q.r2 q.r3 t' (qpv) q.dfr q.cnt q.lvg q.en q.pan) :: (rQ t' q.runs) :: Rs) := hS;obtain ⟨m_3, hm_3⟩ : ∃ z_ : MS, z_ = (⟨m.made, m.shared, m.depth, m.deepest, m.trace, m.owners, m.calls, m.panics, m.recs, m.places⟩ : MS) := ⟨_, rfl⟩;replace hS : Sat w0 w ((mch bm pv fuel m_3) :: (FB bf f.id f.fn (u4 f.r0 0 0 r) (u4 f.r1 0 1 r) (u4 f.r2 0 2 r) 0 t (ptr bq 0) f.dfr f.cnt f.lvg f.en f.pan) :: (rQ t f.runs) :: (FB bq q.id q.fn q.r0 q.r1 q.r2 q.r3 t' (qpv) q.dfr q.cnt q.lvg q.en q.pan) :: (rQ t' q.runs) :: Rs) := by rw [hm_3]; exact Sat.shutM (⟨s.tr, s.ow, s.ca, s.pa, s.re, s.us, s.bp⟩ : MSl) (hs) hS
    replace hS : Sat w0 w ((mch bm pv fuel m_3) :: (FB bf f.id f.fn (u4 f.r0 0 0 r) (u4 f.r1 0 1 r) (u4 f.r2 0 2 r) 0 t (ptr bq 0) f.dfr f.cnt f.lvg f.en f.pan) :: (rQ t f.runs) :: (FB bq q.id q.fn q.r0 q.r1 q.r2 q.r3 t' (qpv) q.dfr q.cnt q.lvg q.en q.pan) :: (rQ t' q.runs) :: Rs) := hS
    have hE : (m_3, (⟨f.id, f.fn, (u4 f.r0 0 0 r), (u4 f.r1 0 1 r), (u4 f.r2 0 2 r), 0, f.runs, f.dfr, f.cnt, f.lvg, f.en, f.pan⟩ : FS)) = zY m f (some q) r := by
      have hcr : canRec f (some q) = false := by simp [canRec, c1, c2, c3]
      rw [hm_3]; simp [zY, hcr, recNo, FS.set]
    have hG := Sat.shutF1 (f := (⟨f.id, f.fn, (u4 f.r0 0 0 r), (u4 f.r1 0 1 r), (u4 f.r2 0 2 r), 0, f.runs, f.dfr, f.cnt, f.lvg, f.en, f.pan⟩ : FS)) t hS;rw [← hE];exact Sat.back (l := [_, _]) (Sat.shutF (f := q) t' (Sat.comm2 (l := [_, _]) (k := frmL bq q qpv t') hG))
  replace ha := ha.turn 10 (.bool false) rfl (congrArg Value.bool c1)
  replace ha := ha.turn 11 (.bool true) rfl (congrArg Value.bool (kJ c1))
  replace ha := ha.turn 12 (.bool true) rfl (congrArg Value.bool (kJ c1))
  refine jQ [(6, 13, undef), (7, 14, undef), (8, 15, undef), (9, 16, undef), (10, 17, .bool true), (11, 18, .bool true), (12, 19, undef), (13, 20, undef), (14, 21, undef), (15, 22, undef), (16, 23, undef), (17, 24, undef), (18, 25, undef), (19, 26, undef), (20, 27, .bool true)] ha fun a ha => ?_
  refine jY ?_
  replace ha := ha.as [(0, ptr bm 0), (1, ptr bf 0), (2, iv r), (27, .bool true)] rfl
  refine jJ ?_
  refine jG ha rfl rfl ?_
  refine wp_seq (xH 6 11 hS fun w hS => ?_)
  refine jK (k := 6) [(0, 28, ptr bf 0), (1, 29, iv r), (2, 30, ptr bf 0), (3, 31, ptr bf 0), (4, 32, ptr bf 2)] ha (.inr hS) fun a ha => ?_
  refine zQ 5 (.pointer (some ⟨bf, 2 + (r : Int).toNat * 1, none⟩)) ha (yV (len := 4) (el := 3) (sz := 1) ha (yU (t := 122) (x := 32) (y := 29) (d := 33)) rfl rfl (by kernel_rfl) (by kernel_rfl) (by have := hr; omega) (by have := hr; omega)) (.inr hS) fun a ha => ?_
  refine jK (k := 3) [(7, 34, ptr bf 0), (8, 35, ptr bf 2)] ha (.inr hS) fun a ha => ?_
  refine jH 6 (o_store (cs' := [iv f.id, iv f.fn, iv (u4 f.r0 0 0 r), iv (u4 f.r1 0 1 r), iv (u4 f.r2 0 2 r), iv (u4 f.r3 0 3 r), .slice t.A t.n t.c, ptr bq 0, .bool f.dfr, .bool f.cnt, .bool f.lvg, iv f.en, iv f.pan]) 8 ha (zW (op := (Op.store 3 (Operand.tmp 33) (Operand.const (Value.int IntKind.i64 0)))) (ty := 0)) rfl rfl rfl (by kernel_rfl) hS rfl (by have := hr; simp; omega) (by rcases hr with h | h | h | h <;> simp [h, u4]) (fun w a hS ha => ?_))
  refine xJ (jK (k := 1) [(9, 36, ptr bf 5)] ha (.inl (by kernel_rfl)) fun a ha => ?_)
  refine jH 10 (qH bf 5 (iv 0) 8 ha hS rfl rfl fun w a hS ha => ?_)
  refine xJ (xX (jJ (wp_ret (xQ ?_))))
  refine end_noneR ha (by kernel_rfl) ⟨rfl, ?_⟩
  replace hS : Sat w0 w ((MB bm pv fuel m.made m.shared m.depth m.deepest s.tr s.ow s.ca s.pa s.re s.bp) :: (rE s.tr m.trace) :: (rI s.ow m.owners) :: (rC s.ca m.calls) :: (rP s.pa s.us) :: (jW (yQ s.us)) :: (rV s.re m.recs) :: (yY s.bp m.places) :: (FB bf f.id f.fn (u4 f.r0 0 0 r) (u4 f.r1 0 1 r) (u4 f.r2 0 2 r) 0 t (ptr bq 0) f.dfr f.cnt f.lvg f.en f.pan) :: (rQ t f.runs) :: (FB bq q.id q.fn q.r0 q.r1 q.r2 q.r3 t' (qpv) q.dfr q.cnt q.lvg q.en q.pan) :: (rQ t' q.runs) :: Rs) := hS
  obtain ⟨m_4, hm_4⟩ : ∃ z_ : MS, z_ = (⟨m.made, m.shared, m.depth, m.deepest, m.trace, m.owners, m.calls, m.panics, m.recs, m.places⟩ : MS) := ⟨_, rfl⟩
  replace hS : Sat w0 w ((mch bm pv fuel m_4) :: (FB bf f.id f.fn (u4 f.r0 0 0 r) (u4 f.r1 0 1 r) (u4 f.r2 0 2 r) 0 t (ptr bq 0) f.dfr f.cnt f.lvg f.en f.pan) :: (rQ t f.runs) :: (FB bq q.id q.fn q.r0 q.r1 q.r2 q.r3 t' (qpv) q.dfr q.cnt q.lvg q.en q.pan) :: (rQ t' q.runs) :: Rs) := by rw [hm_4]; exact Sat.shutM (⟨s.tr, s.ow, s.ca, s.pa, s.re, s.us, s.bp⟩ : MSl) (hs) hS
  replace hS : Sat w0 w ((mch bm pv fuel m_4) :: (FB bf f.id f.fn (u4 f.r0 0 0 r) (u4 f.r1 0 1 r) (u4 f.r2 0 2 r) 0 t (ptr bq 0) f.dfr f.cnt f.lvg f.en f.pan) :: (rQ t f.runs) :: (FB bq q.id q.fn q.r0 q.r1 q.r2 q.r3 t' (qpv) q.dfr q.cnt q.lvg q.en q.pan) :: (rQ t' q.runs) :: Rs) := hS
  have hE : (m_4, (⟨f.id, f.fn, (u4 f.r0 0 0 r), (u4 f.r1 0 1 r), (u4 f.r2 0 2 r), 0, f.runs, f.dfr, f.cnt, f.lvg, f.en, f.pan⟩ : FS)) = zY m f (some q) r := by
    have hcr : canRec f (some q) = false := by simp [canRec, c1]
    rw [hm_4]; simp [zY, hcr, recNo, FS.set]
  have hG := Sat.shutF1 (f := (⟨f.id, f.fn, (u4 f.r0 0 0 r), (u4 f.r1 0 1 r), (u4 f.r2 0 2 r), 0, f.runs, f.dfr, f.cnt, f.lvg, f.en, f.pan⟩ : FS)) t hS
  rw [← hE]
  exact Sat.back (l := [_, _]) (Sat.shutF (f := q) t' (Sat.comm2 (l := [_, _]) (k := frmL bq q qpv t') hG))
theorem recover_none (w0 w : World) (Rs : List Asn) (bm bf : Nat) (pv : Sl) (fuel : Int) (m : MS) (f : FS) (r : Int) (x_ : Nat) (hr : r = 0 ∨ r = 1 ∨ r = 2 ∨ r = 3) (hS : Sat w0 w (mch bm pv fuel m :: frm bf f (.pointer none) :: Rs)) (hm : OkM fuel m x_) (hdf : f.dfr = false) :
  Calls Try.prog 129 #[.pointer (some ⟨bm, 0, none⟩), .pointer (some ⟨bf, 0, none⟩), .int .i64 r] w (Ret fun r_ w' => r_ = .tuple #[] ∧ Sat w0 w' (mch bm pv fuel (zY m f none r).1 :: frm bf (zY m f none r).2 (.pointer none) :: Rs)) := by
 obtain ⟨s, t, hs, hS⟩ := hS.openMF
 replace hS : Sat w0 w ((MB bm pv fuel m.made m.shared m.depth m.deepest s.tr s.ow s.ca s.pa s.re s.bp) :: (rE s.tr m.trace) :: (rI s.ow m.owners) :: (rC s.ca m.calls) :: (rP s.pa s.us) :: (jW (yQ s.us)) :: (rV s.re m.recs) :: (yY s.bp m.places) :: (FB bf f.id f.fn f.r0 f.r1 f.r2 f.r3 t (.pointer none) f.dfr f.cnt f.lvg f.en f.pan) :: (rQ t f.runs) :: Rs) := hS
 refine enter (n := 110) Try.func129 code129 (by kernel_rfl) (Nat.le_of_ble_eq_true rfl) (fun a ha => ?_)
 replace ha : Has 110 [(0, ptr bm 0), (1, ptr bf 0), (2, iv r)] a := ha
 refine wp_seq (wp_seq (jX [0, 1, 2, 3, 4, 5, 6, 7, 8, 9, 10, 11, 12, 13, 14, 15, 16, 17, 18, 19, 20] (jQ [(0, 7, ptr bf 0), (1, 8, ptr bf 0), (2, 9, ptr bf 8)] ha fun a ha => ?_)))
 refine jU (d := 10) (b := bf) (j := 8) ha (hS.blk 8 rfl) rfl fun a ha => ?_
 refine jQ [(4, 11, .bool (!(f.dfr))), (5, 12, .bool (!(f.dfr)))] ha fun a ha => ?_
 replace ha := ha.turn 10 (.bool false) rfl (congrArg Value.bool hdf)
 replace ha := ha.turn 11 (.bool true) rfl (congrArg Value.bool (kJ hdf))
 replace ha := ha.turn 12 (.bool true) rfl (congrArg Value.bool (kJ hdf))
 refine jQ [(6, 13, undef), (7, 14, undef), (8, 15, undef), (9, 16, undef), (10, 17, .bool true), (11, 18, .bool true), (12, 19, undef), (13, 20, undef), (14, 21, undef), (15, 22, undef), (16, 23, undef), (17, 24, undef), (18, 25, undef), (19, 26, undef), (20, 27, .bool true)] ha fun a ha => ?_
 refine jY ?_
 replace ha := ha.as [(0, ptr bm 0), (1, ptr bf 0), (2, iv r), (27, .bool true)] rfl
 refine jJ ?_
 refine jG ha rfl rfl ?_
 refine wp_seq (xH 6 11 hS fun w hS => ?_)
 refine jK (k := 6) [(0, 28, ptr bf 0), (1, 29, iv r), (2, 30, ptr bf 0), (3, 31, ptr bf 0), (4, 32, ptr bf 2)] ha (.inr hS) fun a ha => ?_
 refine zQ 5 (.pointer (some ⟨bf, 2 + (r : Int).toNat * 1, none⟩)) ha (yV (len := 4) (el := 3) (sz := 1) ha (yU (t := 122) (x := 32) (y := 29) (d := 33)) rfl rfl (by kernel_rfl) (by kernel_rfl) (by have := hr; omega) (by have := hr; omega)) (.inr hS) fun a ha => ?_
 refine jK (k := 3) [(7, 34, ptr bf 0), (8, 35, ptr bf 2)] ha (.inr hS) fun a ha => ?_
 refine jH 6 (o_store (cs' := [iv f.id, iv f.fn, iv (u4 f.r0 0 0 r), iv (u4 f.r1 0 1 r), iv (u4 f.r2 0 2 r), iv (u4 f.r3 0 3 r), .slice t.A t.n t.c, .pointer none, .bool f.dfr, .bool f.cnt, .bool f.lvg, iv f.en, iv f.pan]) 8 ha (zW (op := (Op.store 3 (Operand.tmp 33) (Operand.const (Value.int IntKind.i64 0)))) (ty := 0)) rfl rfl rfl (by kernel_rfl) hS rfl (by have := hr; simp; omega) (by rcases hr with h | h | h | h <;> simp [h, u4]) (fun w a hS ha => ?_))
 refine xJ (jK (k := 1) [(9, 36, ptr bf 5)] ha (.inl (by kernel_rfl)) fun a ha => ?_)
 refine jH 10 (qH bf 5 (iv 0) 8 ha hS rfl rfl fun w a hS ha => ?_)
 refine xJ (xX (jJ (wp_ret (xQ ?_))))
 refine end_noneR ha (by kernel_rfl) ⟨rfl, ?_⟩
 replace hS : Sat w0 w ((MB bm pv fuel m.made m.shared m.depth m.deepest s.tr s.ow s.ca s.pa s.re s.bp) :: (rE s.tr m.trace) :: (rI s.ow m.owners) :: (rC s.ca m.calls) :: (rP s.pa s.us) :: (jW (yQ s.us)) :: (rV s.re m.recs) :: (yY s.bp m.places) :: (FB bf f.id f.fn (u4 f.r0 0 0 r) (u4 f.r1 0 1 r) (u4 f.r2 0 2 r) 0 t (.pointer none) f.dfr f.cnt f.lvg f.en f.pan) :: (rQ t f.runs) :: Rs) := hS
 obtain ⟨m_1, hm_1⟩ : ∃ z_ : MS, z_ = (⟨m.made, m.shared, m.depth, m.deepest, m.trace, m.owners, m.calls, m.panics, m.recs, m.places⟩ : MS) := ⟨_, rfl⟩
 replace hS : Sat w0 w ((mch bm pv fuel m_1) :: (FB bf f.id f.fn (u4 f.r0 0 0 r) (u4 f.r1 0 1 r) (u4 f.r2 0 2 r) 0 t (.pointer none) f.dfr f.cnt f.lvg f.en f.pan) :: (rQ t f.runs) :: Rs) := by rw [hm_1]; exact Sat.shutM (⟨s.tr, s.ow, s.ca, s.pa, s.re, s.us, s.bp⟩ : MSl) (hs) hS
 replace hS : Sat w0 w ((mch bm pv fuel m_1) :: (FB bf f.id f.fn (u4 f.r0 0 0 r) (u4 f.r1 0 1 r) (u4 f.r2 0 2 r) 0 t (.pointer none) f.dfr f.cnt f.lvg f.en f.pan) :: (rQ t f.runs) :: Rs) := hS
 have hE : (m_1, (⟨f.id, f.fn, (u4 f.r0 0 0 r), (u4 f.r1 0 1 r), (u4 f.r2 0 2 r), 0, f.runs, f.dfr, f.cnt, f.lvg, f.en, f.pan⟩ : FS)) = zY m f none r := by
  rw [hm_1]; simp [zY, recNo, FS.set]
 have hG := Sat.shutF1 (f := (⟨f.id, f.fn, (u4 f.r0 0 0 r), (u4 f.r1 0 1 r), (u4 f.r2 0 2 r), 0, f.runs, f.dfr, f.cnt, f.lvg, f.en, f.pan⟩ : FS)) t hS
 rw [← hE]
 exact hG
theorem recover_calls (w0 w : World) (Rs : List Asn) (bm bf : Nat) (pv : Sl) (fuel : Int) (m : MS) (f : FS) (fpv qpv : Value) (p : Option FS) (r : Int) (x_ : Nat) (hr : r = 0 ∨ r = 1 ∨ r = 2 ∨ r = 3) (hS : Sat w0 w (mch bm pv fuel m :: frm bf f fpv :: qV fpv qpv p :: Rs)) (hm : OkM fuel m x_)
  (hq : ∀ q, p = some q → q.en = 2 → 0 ≤ q.pan ∧ q.pan < m.panics.length) (hd : f.dfr = true → p.isSome = true) :
  Calls Try.prog 129 #[.pointer (some ⟨bm, 0, none⟩), .pointer (some ⟨bf, 0, none⟩), .int .i64 r] w (Ret fun r_ w' => r_ = .tuple #[] ∧ Sat w0 w' (mch bm pv fuel (zY m f p r).1 :: frm bf (zY m f p r).2 fpv :: qV fpv qpv p :: Rs)) := by
 cases p with
 | none =>
  have hv : fpv = .pointer none := hS.fact_ 2 rfl
  subst hv
  have hS1 : Sat w0 w (mch bm pv fuel m :: frm bf f (.pointer none) :: Rs) := hS.pickR (l := [mch bm pv fuel m, frm bf f (.pointer none), qV (.pointer none) qpv none]) [0, 1] (by decide) [mch bm pv fuel m, frm bf f (.pointer none)] rfl
  refine (recover_none w0 w Rs bm bf pv fuel m f r x_ hr hS1 hm (by cases h : f.dfr; rfl; exact absurd (hd h) (by simp))).mono fun e w' h => ?_
  cases e with
  | returned v =>
   obtain ⟨h1, h2⟩ := h;refine ⟨h1, ?_⟩;have h3 : Sat w0 w' (qV (.pointer none) qpv none :: mch bm pv fuel (zY m f none r).1 :: frm bf (zY m f none r).2 (.pointer none) :: Rs) := h2.more rfl;exact h3.pickR (l := [qV (.pointer none) qpv none, mch bm pv fuel (zY m f none r).1, frm bf (zY m f none r).2 (.pointer none)]) [1, 2, 0] (by decide) [mch bm pv fuel (zY m f none r).1, frm bf (zY m f none r).2 (.pointer none), qV (.pointer none) qpv none] rfl
  | panicked c => exact h
  | outgrown => exact h
 | some q =>
  obtain ⟨bq, hv, h1⟩ := (Sat.front (l := [_, _]) hS).openPar
  subst hv
  have hS1 := Sat.back (l := [mch bm pv fuel m, frm bf f (.pointer (some ⟨bq, 0, none⟩))]) h1
  refine (recover_some w0 w Rs bm bf bq pv fuel m f q qpv r x_ hr hS1 hm (hq q rfl)).mono fun e w' h => ?_
  cases e with
  | returned v =>
   obtain ⟨h1, h2⟩ := h;exact ⟨h1, Sat.back (l := [_, _]) (Sat.shutPar (Sat.front (l := [_, _]) h2))⟩
  | panicked c => exact h
  | outgrown => exact h
theorem code109 : Try.f109.body = some (Code.seq (cr Try.f109 0 false) (Code.seq (Code.seq (cr Try.f109 1 false) (Code.block 0 (Code.seq (cr Try.f109 2 false) (Code.cond (Operand.tmp 10) (cr Try.f109 3 true) (Code.seq (cr Try.f109 4 false) (Code.cond (Operand.tmp 17) (Code.seq (cr Try.f109 5 true) (cr Try.f109 6 true)) Code.skip)))))) (Code.seq (cr Try.f109 7 true) (cr Try.f109 8 true)))) := by kernel_rfl
theorem finish_calls (w0 w : World) (Rs : List Asn) (bm bf : Nat) (pv : Sl) (fuel : Int) (m : MS) (f : FS) (fpv : Value) (n x_ : Nat) (hS : Sat w0 w (mch bm pv fuel m :: frm bf f fpv :: Rs)) (hm : OkM fuel m x_) (hf : OkF n m f) :
    Calls Try.prog 109 #[.pointer (some ⟨bm, 0, none⟩), .pointer (some ⟨bf, 0, none⟩)] w (Ret fun r w' => r = .tuple #[] ∧ Sat w0 w' (mch bm pv fuel (finishS m f) :: frm bf f fpv :: Rs)) := by
  obtain ⟨s, t, hs, hS⟩ := hS.openMF
  replace hS : Sat w0 w ((MB bm pv fuel m.made m.shared m.depth m.deepest s.tr s.ow s.ca s.pa s.re s.bp) :: (rE s.tr m.trace) :: (rI s.ow m.owners) :: (rC s.ca m.calls) :: (rP s.pa s.us) :: (jW (yQ s.us)) :: (rV s.re m.recs) :: (yY s.bp m.places) :: (FB bf f.id f.fn f.r0 f.r1 f.r2 f.r3 t (fpv) f.dfr f.cnt f.lvg f.en f.pan) :: (rQ t f.runs) :: Rs) := hS
  obtain ⟨c, hc⟩ := get_int m.calls hf.id0 hf.id1
  obtain ⟨x, hx⟩ : ∃ x : PanS, f.en = 2 → s.us[f.pan.toNat]? = some x := by
    by_cases h : f.en = 2
    · obtain ⟨x, hx⟩ := us_get hs (hf.pan h).1 (hf.pan h).2
      exact ⟨x, fun _ => hx⟩
    · exact ⟨default, fun h' => absurd h' h⟩
  refine enter (n := 96) Try.func109 code109 (by kernel_rfl) (Nat.le_of_ble_eq_true rfl) (fun a ha => ?_)
  replace ha : Has 96 [(0, ptr bm 0), (1, ptr bf 0)] a := ha
  refine wp_seq (jX [0, 1] (jQ [(0, 4, iv 9), (1, 5, iv 0)] ha fun a ha => ?_))
  refine jY (jJ (wp_seq (wp_seq (jX [0, 1, 2, 3] (jQ [(0, 6, ptr bf 0), (1, 7, ptr bf 0), (2, 8, ptr bf 11)] ha fun a ha => ?_)))))
  refine jU (d := 9) (b := bf) (j := 11) ha (hS.blk 8 rfl) rfl fun a ha => ?_
  refine jY (jJ (wp_block (wp_seq (jX [0, 1] (jQ [(0, 11, .bool (decide (f.en = 1))), (1, 10, .bool (decide (f.en = 1)))] ha fun a ha => ?_)))))
  refine jY (jJ ?_)
  by_cases c1 : f.en = 1
  ·
    refine jG ha rfl (decide_eq_true c1) ?_;refine xH 7 7 hS fun w hS => ?_;refine jK (k := 3) [(0, 12, ptr bf 0), (1, 13, ptr bf 0), (2, 14, ptr bf 2), (3, 15, ptr bf 3)] ha (.inr hS) fun a ha => ?_;refine qW 4 (d := 16) (b := bf) (j := 3) ha hS (fun _ hw => hw.blk 8 rfl) rfl fun a ha => ?_;refine jK (k := 0) [(5, 4, iv 7), (6, 5, iv f.r1)] ha (.inr hS) fun a ha => ?_;refine xX (in_n (jJ (wp_seq (xH 24 29 hS fun w hS => ?_))));refine jK (k := 26) [(0, 57, ptr bm 0), (1, 58, ptr bm 0), (2, 59, ptr bm 8)] ha (.inr hS) fun a ha => ?_;refine qW 3 (d := 60) (b := bm) (j := 8) ha hS (fun _ hw => hw.blk 0 rfl) rfl fun a ha => ?_;refine jK (k := 22) [(4, 61, ptr bf 0), (5, 62, ptr bf 0), (6, 63, ptr bf 0)] ha (.inr hS) fun a ha => ?_;refine qW 7 (d := 64) (b := bf) (j := 0) ha hS (fun _ hw => hw.blk 8 rfl) rfl fun a ha => ?_;refine jK (k := 18) [(8, 65, ptr bm 0), (9, 66, ptr bm 0), (10, 67, ptr bm 8)] ha (.inr hS) fun a ha => ?_;refine qW 11 (d := 68) (b := bm) (j := 8) ha hS (fun _ hw => hw.blk 0 rfl) rfl fun a ha => ?_;refine jK (k := 14) [(12, 69, ptr bf 0), (13, 70, ptr bf 0), (14, 71, ptr bf 0)] ha (.inr hS) fun a ha => ?_;refine qW 15 (d := 72) (b := bf) (j := 0) ha hS (fun _ hw => hw.blk 8 rfl) rfl fun a ha => ?_;refine jK (k := 10) [(16, 73, ptr bf 0), (17, 74, ptr bf 0), (18, 75, ptr bf 11)] ha (.inr hS) fun a ha => ?_;refine qW 19 (d := 76) (b := bf) (j := 11) ha hS (fun _ hw => hw.blk 8 rfl) rfl fun a ha => ?_;refine jK (k := 8) [(20, 77, iv f.r1)] ha (.inr hS) fun a ha => ?_;refine zQ 21 (.pointer (some ⟨bk s.ca, f.id.toNat * 6, none⟩)) ha (xW (s := s.ca) (el := 147) (sz := 6) (j := f.id.toNat) ha (yU (t := 86) (x := 60) (y := 64) (d := 78)) rfl rfl (by kernel_rfl) (by kernel_rfl) (hS.rowA (s := s.ca) 3 rfl (by have := (List.getElem?_eq_some_iff.1 hc).1; rw [encC_length]; omega)) ((Int.toNat_of_nonneg hf.id0).symm) (by have h9 := hS.rowL (s := s.ca) (enc := cellsC) 3 zG (by decide) rfl; have := (List.getElem?_eq_some_iff.1 hc).1; omega)) (.inr hS) fun a ha => ?_;refine jK (k := 5) [(22, 79, .pointer (some ⟨bk s.ca, f.id.toNat * 6, none⟩)), (23, 80, .pointer (some ⟨bk s.ca, f.id.toNat * 6 + 3, none⟩))] ha (.inr hS) fun a ha => ?_;refine jH 24 (zZ (s := s.ca) (j := f.id.toNat * 6 + 3) (xs := encC m.calls) (xs' := encC (m.calls.set f.id.toNat ({ c with en := f.en } : CallI))) 3 ha (qU (t := 3) (x := 80) (y := 76)) rfl rfl rfl (by kernel_rfl) hS rfl (by have := (List.getElem?_eq_some_iff.1 hc).1; rw [encC_length]; omega) ((flat_set (enc := cellsC) (x' := ({ c with en := f.en } : CallI)) zG hc (by decide) rfl)) (fun w a (hS : Sat w0 w ((MB bm pv fuel m.made m.shared m.depth m.deepest s.tr s.ow s.ca s.pa s.re s.bp) :: (rE s.tr m.trace) :: (rI s.ow m.owners) :: (rC s.ca (m.calls.set f.id.toNat ({ c with en := f.en } : CallI))) :: (rP s.pa s.us) :: (jW (yQ s.us)) :: (rV s.re m.recs) :: (yY s.bp m.places) :: (FB bf f.id f.fn f.r0 f.r1 f.r2 f.r3 t (fpv) f.dfr f.cnt f.lvg f.en f.pan) :: (rQ t f.runs) :: Rs)) ha => ?_));refine xJ (zQ 25 (.pointer (some ⟨bk s.ca, f.id.toNat * 6, none⟩)) ha (xW (s := s.ca) (el := 147) (sz := 6) (j := f.id.toNat) ha (yU (t := 86) (x := 68) (y := 72) (d := 81)) rfl rfl (by kernel_rfl) (by kernel_rfl) (hS.rowA (s := s.ca) 3 rfl (by have := (List.getElem?_eq_some_iff.1 (set_get hc ({ c with en := f.en } : CallI))).1; rw [encC_length]; omega)) ((Int.toNat_of_nonneg hf.id0).symm) (by have h9 := hS.rowL (s := s.ca) (enc := cellsC) 3 zG (by decide) rfl; have := (List.getElem?_eq_some_iff.1 (set_get hc ({ c with en := f.en } : CallI))).1; omega)) (.inl (by kernel_rfl)) fun a ha => ?_)
    refine jK (k := 1) [(26, 82, .pointer (some ⟨bk s.ca, f.id.toNat * 6, none⟩)), (27, 83, .pointer (some ⟨bk s.ca, f.id.toNat * 6 + 4, none⟩))] ha (.inl (by kernel_rfl)) fun a ha => ?_;refine jH 28 (zZ (s := s.ca) (j := f.id.toNat * 6 + 4) (xs := encC (m.calls.set f.id.toNat ({ c with en := f.en } : CallI))) (xs' := encC (m.calls.set f.id.toNat ({ c with en := f.en, val := f.r1 } : CallI))) 3 ha (qU (t := 3) (x := 83) (y := 77)) rfl rfl rfl (by kernel_rfl) hS rfl (by have := (List.getElem?_eq_some_iff.1 (set_get hc ({ c with en := f.en } : CallI))).1; rw [encC_length]; omega) ((flat_set (enc := cellsC) (x' := ({ c with en := f.en, val := f.r1 } : CallI)) zG (set_get hc ({ c with en := f.en } : CallI)) (by decide) rfl).trans (by rw [List.set_set]; rfl)) (fun w a (hS : Sat w0 w ((MB bm pv fuel m.made m.shared m.depth m.deepest s.tr s.ow s.ca s.pa s.re s.bp) :: (rE s.tr m.trace) :: (rI s.ow m.owners) :: (rC s.ca (m.calls.set f.id.toNat ({ c with en := f.en, val := f.r1 } : CallI))) :: (rP s.pa s.us) :: (jW (yQ s.us)) :: (rV s.re m.recs) :: (yY s.bp m.places) :: (FB bf f.id f.fn f.r0 f.r1 f.r2 f.r3 t (fpv) f.dfr f.cnt f.lvg f.en f.pan) :: (rQ t f.runs) :: Rs)) ha => ?_));refine xJ (xX ?_);replace ha := ha.as [(0, ptr bm 0), (1, ptr bf 0), (4, iv 7), (5, iv f.r1)] rfl;refine jJ (xH 11 12 hS fun w hS => ?_);refine jK (k := 7) [(0, 84, ptr bm 0), (1, 85, iv 7), (2, 86, ptr bf 0), (3, 87, ptr bf 0), (4, 88, ptr bf 1)] ha (.inr hS) fun a ha => ?_;refine qW 5 (d := 89) (b := bf) (j := 1) ha hS (fun _ hw => hw.blk 8 rfl) rfl fun a ha => ?_;refine jK (k := 2) [(6, 90, iv f.r1), (7, 91, ptr bf 0), (8, 92, ptr bf 0), (9, 93, ptr bf 0)] ha (.inr hS) fun a ha => ?_;refine qW 10 (d := 94) (b := bf) (j := 0) ha hS (fun _ hw => hw.blk 8 rfl) rfl fun a ha => ?_;replace hS : Sat w0 w ((MB bm pv fuel m.made m.shared m.depth m.deepest s.tr s.ow s.ca s.pa s.re s.bp) :: (rE s.tr m.trace) :: (rI s.ow m.owners) :: (rC s.ca (m.calls.set f.id.toNat ({ c with en := f.en, val := f.r1 } : CallI))) :: (rP s.pa s.us) :: (jW (yQ s.us)) :: (rV s.re m.recs) :: (yY s.bp m.places) :: (FB bf f.id f.fn f.r0 f.r1 f.r2 f.r3 t (fpv) f.dfr f.cnt f.lvg f.en f.pan) :: (rQ t f.runs) :: Rs) := hS;obtain ⟨m_1, hm_1⟩ : ∃ z_ : MS, z_ = (⟨m.made, m.shared, m.depth, m.deepest, m.trace, m.owners, (m.calls.set f.id.toNat ({ c with en := f.en, val := f.r1 } : CallI)), m.panics, m.recs, m.places⟩ : MS) := ⟨_, rfl⟩;replace hS : Sat w0 w ((mch bm pv fuel m_1) :: (FB bf f.id f.fn f.r0 f.r1 f.r2 f.r3 t (fpv) f.dfr f.cnt f.lvg f.en f.pan) :: (rQ t f.runs) :: Rs) := by rw [hm_1]; exact Sat.shutM (⟨s.tr, s.ow, s.ca, s.pa, s.re, s.us, s.bp⟩ : MSl) (hs) hS
    refine jH 11 (qG 95 (vs := [ptr bm 0, iv 7, iv f.fn, iv f.r1, iv f.id]) ha (tell_calls w0 w _ bm pv fuel m_1 7 f.fn f.r1 f.id hS (by rw [hm_1]; have := hm.bnd; have := hm.own; have := hm.made1; simp only []; omega)) fun v2 w a hp3 ha => ?_);obtain ⟨rfl, hS⟩ := hp3;refine xJ (xX ?_);replace ha := ha.as [] rfl;refine end_none ha (by kernel_rfl) ⟨rfl, ?_⟩
    have hE : m_1.tell 7 f.fn f.r1 f.id = finishS m f := by
      rw [hm_1]; simp only [finishS, finVal, finKind, MS.tell, c1, show ¬ ((1 : Int) = 2) by decide, show ¬ ((2 : Int) = 1) by decide, if_true, if_false, modify_get hc, List.set_set]
    replace hS : Sat w0 w ((mch bm pv fuel (m_1.tell 7 f.fn f.r1 f.id)) :: (FB bf f.id f.fn f.r0 f.r1 f.r2 f.r3 t (fpv) f.dfr f.cnt f.lvg f.en f.pan) :: (rQ t f.runs) :: Rs) := hS;exact Sat.shutF1 (f := f) t (by rw [← hE]; exact hS)
  refine jV ha rfl (decide_eq_false c1) ?_
  refine wp_seq (jX [0, 1] (jQ [(0, 18, .bool (decide (f.en = 2))), (1, 17, .bool (decide (f.en = 2)))] ha fun a ha => ?_))
  refine jY (jJ ?_)
  by_cases c4 : f.en = 2
  ·
    refine jG ha rfl (decide_eq_true c4) ?_;refine wp_seq (xH 13 13 hS fun w hS => ?_);refine jK (k := 10) [(0, 19, ptr bm 0), (1, 20, ptr bm 0), (2, 21, ptr bm 9)] ha (.inr hS) fun a ha => ?_;refine qW 3 (d := 22) (b := bm) (j := 9) ha hS (fun _ hw => hw.blk 0 rfl) rfl fun a ha => ?_;refine jK (k := 6) [(4, 23, ptr bf 0), (5, 24, ptr bf 0), (6, 25, ptr bf 12)] ha (.inr hS) fun a ha => ?_;refine qW 7 (d := 26) (b := bf) (j := 12) ha hS (fun _ hw => hw.blk 8 rfl) rfl fun a ha => ?_;refine zQ 8 (.pointer (some ⟨bk s.pa, f.pan.toNat * 9, none⟩)) ha (xW (s := s.pa) (el := 113) (sz := 9) (j := f.pan.toNat) ha (yU (t := 87) (x := 22) (y := 26) (d := 27)) rfl rfl (by kernel_rfl) (by kernel_rfl) (hS.rowA (s := s.pa) 4 rfl (by have := (List.getElem?_eq_some_iff.1 (hx c4)).1; rw [encP_length]; omega)) ((Int.toNat_of_nonneg (hf.pan c4).1).symm) (by have h9 := hS.rowL (s := s.pa) (enc := cellsP) 4 xK (by decide) rfl; have := (List.getElem?_eq_some_iff.1 (hx c4)).1; omega)) (.inr hS) fun a ha => ?_;refine jK (k := 3) [(9, 28, .pointer (some ⟨bk s.pa, f.pan.toNat * 9 + 2, none⟩))] ha (.inr hS) fun a ha => ?_;refine zH 10 (iv x.1.value) ha (zK ha (zV (t := 3) (x := 28) (d := 29) (ty := 3)) rfl (by kernel_rfl) (fun w' hw => ((hw.rdC (s := s.pa) 4 rfl)).cells _ _ ((flat_get (enc := cellsP) (o := 2) xK (hx c4) (by decide)).trans rfl))) hS fun a ha => ?_;refine jK (k := 0) [(11, 4, iv 8), (12, 5, iv x.1.value)] ha (.inr hS) fun a ha => ?_;refine xX ?_;replace ha := ha.as [(0, ptr bm 0), (1, ptr bf 0), (4, iv 8), (5, iv x.1.value)] rfl;refine jJ ?_;have hxu : x.1.unw.length ≤ 1000 := by have h1 := hm.unw x.1 (List.mem_of_getElem? (us_val hs (hx c4))); have := hm.bnd; have := hm.made1; omega
    replace hS := hS.pickN 10 [5, 0, 1, 2, 3, 4, 6, 7, 8, 9];replace hS : Sat w0 w ((rI x.2 x.1.unw) :: (jW ((s.us.eraseIdx f.pan.toNat).map unwA)) :: (MB bm pv fuel m.made m.shared m.depth m.deepest s.tr s.ow s.ca s.pa s.re s.bp) :: (rE s.tr m.trace) :: (rI s.ow m.owners) :: (rC s.ca m.calls) :: (rP s.pa s.us) :: (rV s.re m.recs) :: (yY s.bp m.places) :: (FB bf f.id f.fn f.r0 f.r1 f.r2 f.r3 t (fpv) f.dfr f.cnt f.lvg f.en f.pan) :: (rQ t f.runs) :: Rs) := Sat.takeAt (g := unwA) (hx c4) hS;refine xY 27 28 (hS.pickN 11 [2, 6, 9]) hS fun w hS => ?_;refine jK (k := 25) [(0, 30, ptr bm 0), (1, 31, ptr bm 0), (2, 32, ptr bm 9)] ha (.inr (hS.pickN 11 [2, 6, 9])) fun a ha => ?_;refine qW 3 (d := 33) (b := bm) (j := 9) ha (hS.pickN 11 [2, 6, 9]) (fun _ hw => hw.blk 0 rfl) rfl fun a ha => ?_;refine jK (k := 21) [(4, 34, ptr bf 0), (5, 35, ptr bf 0), (6, 36, ptr bf 12)] ha (.inr (hS.pickN 11 [2, 6, 9])) fun a ha => ?_;refine qW 7 (d := 37) (b := bf) (j := 12) ha (hS.pickN 11 [2, 6, 9]) (fun _ hw => hw.blk 2 rfl) rfl fun a ha => ?_;refine jK (k := 17) [(8, 38, ptr bm 0), (9, 39, ptr bm 0), (10, 40, ptr bm 9)] ha (.inr (hS.pickN 11 [2, 6, 9])) fun a ha => ?_;refine qW 11 (d := 41) (b := bm) (j := 9) ha (hS.pickN 11 [2, 6, 9]) (fun _ hw => hw.blk 0 rfl) rfl fun a ha => ?_;refine jK (k := 13) [(12, 42, ptr bf 0), (13, 43, ptr bf 0), (14, 44, ptr bf 12)] ha (.inr (hS.pickN 11 [2, 6, 9])) fun a ha => ?_;refine qW 15 (d := 45) (b := bf) (j := 12) ha (hS.pickN 11 [2, 6, 9]) (fun _ hw => hw.blk 2 rfl) rfl fun a ha => ?_;refine zQ 16 (.pointer (some ⟨bk s.pa, f.pan.toNat * 9, none⟩)) ha (xW (s := s.pa) (el := 113) (sz := 9) (j := f.pan.toNat) ha (yU (t := 87) (x := 41) (y := 45) (d := 46)) rfl rfl (by kernel_rfl) (by kernel_rfl) (hS.rowA (s := s.pa) 6 rfl (by have := (List.getElem?_eq_some_iff.1 (hx c4)).1; rw [encP_length]; omega)) ((Int.toNat_of_nonneg (hf.pan c4).1).symm) (by have h9 := hS.rowL (s := s.pa) (enc := cellsP) 6 xK (by decide) rfl; have := (List.getElem?_eq_some_iff.1 (hx c4)).1; omega)) (.inr (hS.pickN 11 [2, 6, 9])) fun a ha => ?_;refine jK (k := 10) [(17, 47, .pointer (some ⟨bk s.pa, f.pan.toNat * 9 + 8, none⟩))] ha (.inr (hS.pickN 11 [2, 6, 9])) fun a ha => ?_;refine zH 18 (.slice x.2.A x.2.n x.2.c) ha (zK ha (zV (t := 49) (x := 47) (d := 48) (ty := 49)) rfl (by kernel_rfl) (fun w' hw => ((hw.rdC (s := s.pa) 1 rfl)).cells _ _ ((flat_get (enc := cellsP) (o := 8) xK (hx c4) (by decide)).trans rfl))) (hS.pickN 11 [2, 6, 9]) fun a ha => ?_;refine jK (k := 6) [(19, 49, ptr bf 0), (20, 50, ptr bf 0), (21, 51, ptr bf 1)] ha (.inr (hS.pickN 11 [2, 6, 9])) fun a ha => ?_;refine qW 22 (d := 52) (b := bf) (j := 1) ha (hS.pickN 11 [2, 6, 9]) (fun _ hw => hw.blk 2 rfl) rfl fun a ha => ?_;refine jH 23 (qJ 53 [iv f.fn] 3 (fun b => .slice (some ⟨b, 0, none⟩) 1 1) ha hS fun b5 w a hb6 hS ha => ?_);refine ⟨.inr (hS.pickN 12 [3, 7, 10]), ?_⟩;refine jH 24 (o_ap 54 1 0 (encI (x.1.unw ++ [f.fn])) ha hS rfl rfl (by rw [encI_length]; simp only [List.length_cons, List.length_nil]; have := hxu; omega) (encI_snoc _ _) fun s10 w a hS hn11 ha => ?_)
    refine ⟨.inr (hS.pickN 12 [3, 7, 10]), ?_⟩;refine zQ 25 (.pointer (some ⟨bk s.pa, f.pan.toNat * 9, none⟩)) ha (xW (s := s.pa) (el := 113) (sz := 9) (j := f.pan.toNat) ha (yU (t := 87) (x := 33) (y := 37) (d := 55)) rfl rfl (by kernel_rfl) (by kernel_rfl) (hS.rowA (s := s.pa) 7 rfl (by have := (List.getElem?_eq_some_iff.1 (hx c4)).1; rw [encP_length]; omega)) ((Int.toNat_of_nonneg (hf.pan c4).1).symm) (by have h9 := hS.rowL (s := s.pa) (enc := cellsP) 7 xK (by decide) rfl; have := (List.getElem?_eq_some_iff.1 (hx c4)).1; omega)) (.inr (hS.pickN 12 [3, 7, 10])) fun a ha => ?_;refine jK (k := 1) [(26, 56, .pointer (some ⟨bk s.pa, f.pan.toNat * 9 + 8, none⟩))] ha (.inr (hS.pickN 12 [3, 7, 10])) fun a ha => ?_;refine jH 27 (zZ (s := s.pa) (j := f.pan.toNat * 9 + 8) (xs := encP s.us) (xs' := encP (s.us.set f.pan.toNat (x.1, (⟨s10.A, s10.n, s10.c⟩ : Sl)))) 7 ha (qU (t := 49) (x := 56) (y := 54)) rfl rfl rfl (by kernel_rfl) hS rfl (by have := (List.getElem?_eq_some_iff.1 (hx c4)).1; rw [encP_length]; omega) ((flat_set (enc := cellsP) (x' := (x.1, (⟨s10.A, s10.n, s10.c⟩ : Sl))) xK (hx c4) (by decide) rfl)) (fun w a (hS : Sat w0 w ((SX.blk b5 [iv f.fn] 3) :: (rI s10 (x.1.unw ++ [f.fn])) :: (jW ((s.us.eraseIdx f.pan.toNat).map unwA)) :: (MB bm pv fuel m.made m.shared m.depth m.deepest s.tr s.ow s.ca s.pa s.re s.bp) :: (rE s.tr m.trace) :: (rI s.ow m.owners) :: (rC s.ca m.calls) :: (rP s.pa (s.us.set f.pan.toNat (x.1, (⟨s10.A, s10.n, s10.c⟩ : Sl)))) :: (rV s.re m.recs) :: (yY s.bp m.places) :: (FB bf f.id f.fn f.r0 f.r1 f.r2 f.r3 t (fpv) f.dfr f.cnt f.lvg f.en f.pan) :: (rQ t f.runs) :: Rs)) ha => ?_));refine xJ (xX ?_);replace ha := ha.as [(0, ptr bm 0), (1, ptr bf 0), (4, iv 8), (5, iv x.1.value)] rfl;refine in_n (jJ (wp_seq (xH 24 29 hS fun w hS => ?_)));refine jK (k := 26) [(0, 57, ptr bm 0), (1, 58, ptr bm 0), (2, 59, ptr bm 8)] ha (.inr hS) fun a ha => ?_;refine qW 3 (d := 60) (b := bm) (j := 8) ha hS (fun _ hw => hw.blk 3 rfl) rfl fun a ha => ?_;refine jK (k := 22) [(4, 61, ptr bf 0), (5, 62, ptr bf 0), (6, 63, ptr bf 0)] ha (.inr hS) fun a ha => ?_;refine qW 7 (d := 64) (b := bf) (j := 0) ha hS (fun _ hw => hw.blk 10 rfl) rfl fun a ha => ?_;refine jK (k := 18) [(8, 65, ptr bm 0), (9, 66, ptr bm 0), (10, 67, ptr bm 8)] ha (.inr hS) fun a ha => ?_;refine qW 11 (d := 68) (b := bm) (j := 8) ha hS (fun _ hw => hw.blk 3 rfl) rfl fun a ha => ?_;refine jK (k := 14) [(12, 69, ptr bf 0), (13, 70, ptr bf 0), (14, 71, ptr bf 0)] ha (.inr hS) fun a ha => ?_;refine qW 15 (d := 72) (b := bf) (j := 0) ha hS (fun _ hw => hw.blk 10 rfl) rfl fun a ha => ?_;refine jK (k := 10) [(16, 73, ptr bf 0), (17, 74, ptr bf 0), (18, 75, ptr bf 11)] ha (.inr hS) fun a ha => ?_;refine qW 19 (d := 76) (b := bf) (j := 11) ha hS (fun _ hw => hw.blk 10 rfl) rfl fun a ha => ?_;refine jK (k := 8) [(20, 77, iv x.1.value)] ha (.inr hS) fun a ha => ?_;refine zQ 21 (.pointer (some ⟨bk s.ca, f.id.toNat * 6, none⟩)) ha (xW (s := s.ca) (el := 147) (sz := 6) (j := f.id.toNat) ha (yU (t := 86) (x := 60) (y := 64) (d := 78)) rfl rfl (by kernel_rfl) (by kernel_rfl) (hS.rowA (s := s.ca) 6 rfl (by have := (List.getElem?_eq_some_iff.1 hc).1; rw [encC_length]; omega)) ((Int.toNat_of_nonneg hf.id0).symm) (by have h9 := hS.rowL (s := s.ca) (enc := cellsC) 6 zG (by decide) rfl; have := (List.getElem?_eq_some_iff.1 hc).1; omega)) (.inr hS) fun a ha => ?_
    refine jK (k := 5) [(22, 79, .pointer (some ⟨bk s.ca, f.id.toNat * 6, none⟩)), (23, 80, .pointer (some ⟨bk s.ca, f.id.toNat * 6 + 3, none⟩))] ha (.inr hS) fun a ha => ?_;refine jH 24 (zZ (s := s.ca) (j := f.id.toNat * 6 + 3) (xs := encC m.calls) (xs' := encC (m.calls.set f.id.toNat ({ c with en := f.en } : CallI))) 6 ha (qU (t := 3) (x := 80) (y := 76)) rfl rfl rfl (by kernel_rfl) hS rfl (by have := (List.getElem?_eq_some_iff.1 hc).1; rw [encC_length]; omega) ((flat_set (enc := cellsC) (x' := ({ c with en := f.en } : CallI)) zG hc (by decide) rfl)) (fun w a (hS : Sat w0 w ((SX.blk b5 [iv f.fn] 3) :: (rI s10 (x.1.unw ++ [f.fn])) :: (jW ((s.us.eraseIdx f.pan.toNat).map unwA)) :: (MB bm pv fuel m.made m.shared m.depth m.deepest s.tr s.ow s.ca s.pa s.re s.bp) :: (rE s.tr m.trace) :: (rI s.ow m.owners) :: (rC s.ca (m.calls.set f.id.toNat ({ c with en := f.en } : CallI))) :: (rP s.pa (s.us.set f.pan.toNat (x.1, (⟨s10.A, s10.n, s10.c⟩ : Sl)))) :: (rV s.re m.recs) :: (yY s.bp m.places) :: (FB bf f.id f.fn f.r0 f.r1 f.r2 f.r3 t (fpv) f.dfr f.cnt f.lvg f.en f.pan) :: (rQ t f.runs) :: Rs)) ha => ?_));refine xJ (zQ 25 (.pointer (some ⟨bk s.ca, f.id.toNat * 6, none⟩)) ha (xW (s := s.ca) (el := 147) (sz := 6) (j := f.id.toNat) ha (yU (t := 86) (x := 68) (y := 72) (d := 81)) rfl rfl (by kernel_rfl) (by kernel_rfl) (hS.rowA (s := s.ca) 6 rfl (by have := (List.getElem?_eq_some_iff.1 (set_get hc ({ c with en := f.en } : CallI))).1; rw [encC_length]; omega)) ((Int.toNat_of_nonneg hf.id0).symm) (by have h9 := hS.rowL (s := s.ca) (enc := cellsC) 6 zG (by decide) rfl; have := (List.getElem?_eq_some_iff.1 (set_get hc ({ c with en := f.en } : CallI))).1; omega)) (.inl (by kernel_rfl)) fun a ha => ?_);refine jK (k := 1) [(26, 82, .pointer (some ⟨bk s.ca, f.id.toNat * 6, none⟩)), (27, 83, .pointer (some ⟨bk s.ca, f.id.toNat * 6 + 4, none⟩))] ha (.inl (by kernel_rfl)) fun a ha => ?_;refine jH 28 (zZ (s := s.ca) (j := f.id.toNat * 6 + 4) (xs := encC (m.calls.set f.id.toNat ({ c with en := f.en } : CallI))) (xs' := encC (m.calls.set f.id.toNat ({ c with en := f.en, val := x.1.value } : CallI))) 6 ha (qU (t := 3) (x := 83) (y := 77)) rfl rfl rfl (by kernel_rfl) hS rfl (by have := (List.getElem?_eq_some_iff.1 (set_get hc ({ c with en := f.en } : CallI))).1; rw [encC_length]; omega) ((flat_set (enc := cellsC) (x' := ({ c with en := f.en, val := x.1.value } : CallI)) zG (set_get hc ({ c with en := f.en } : CallI)) (by decide) rfl).trans (by rw [List.set_set]; rfl)) (fun w a (hS : Sat w0 w ((SX.blk b5 [iv f.fn] 3) :: (rI s10 (x.1.unw ++ [f.fn])) :: (jW ((s.us.eraseIdx f.pan.toNat).map unwA)) :: (MB bm pv fuel m.made m.shared m.depth m.deepest s.tr s.ow s.ca s.pa s.re s.bp) :: (rE s.tr m.trace) :: (rI s.ow m.owners) :: (rC s.ca (m.calls.set f.id.toNat ({ c with en := f.en, val := x.1.value } : CallI))) :: (rP s.pa (s.us.set f.pan.toNat (x.1, (⟨s10.A, s10.n, s10.c⟩ : Sl)))) :: (rV s.re m.recs) :: (yY s.bp m.places) :: (FB bf f.id f.fn f.r0 f.r1 f.r2 f.r3 t (fpv) f.dfr f.cnt f.lvg f.en f.pan) :: (rQ t f.runs) :: Rs)) ha => ?_))
    refine xJ (xX ?_);replace ha := ha.as [(0, ptr bm 0), (1, ptr bf 0), (4, iv 8), (5, iv x.1.value)] rfl;refine jJ (xH 11 12 hS fun w hS => ?_);refine jK (k := 7) [(0, 84, ptr bm 0), (1, 85, iv 8), (2, 86, ptr bf 0), (3, 87, ptr bf 0), (4, 88, ptr bf 1)] ha (.inr hS) fun a ha => ?_;refine qW 5 (d := 89) (b := bf) (j := 1) ha hS (fun _ hw => hw.blk 10 rfl) rfl fun a ha => ?_;refine jK (k := 2) [(6, 90, iv x.1.value), (7, 91, ptr bf 0), (8, 92, ptr bf 0), (9, 93, ptr bf 0)] ha (.inr hS) fun a ha => ?_;refine qW 10 (d := 94) (b := bf) (j := 0) ha hS (fun _ hw => hw.blk 10 rfl) rfl fun a ha => ?_;replace hS : Sat w0 w ((SX.blk b5 [iv f.fn] 3) :: (rI s10 (x.1.unw ++ [f.fn])) :: (jW ((s.us.eraseIdx f.pan.toNat).map unwA)) :: (MB bm pv fuel m.made m.shared m.depth m.deepest s.tr s.ow s.ca s.pa s.re s.bp) :: (rE s.tr m.trace) :: (rI s.ow m.owners) :: (rC s.ca (m.calls.set f.id.toNat ({ c with en := f.en, val := x.1.value } : CallI))) :: (rP s.pa (s.us.set f.pan.toNat (({ x.1 with unw := x.1.unw ++ [f.fn] } : PanI), (⟨s10.A, s10.n, s10.c⟩ : Sl)))) :: (rV s.re m.recs) :: (yY s.bp m.places) :: (FB bf f.id f.fn f.r0 f.r1 f.r2 f.r3 t (fpv) f.dfr f.cnt f.lvg f.en f.pan) :: (rQ t f.runs) :: Rs) := by have e1 := flat_set (enc := cellsP) (o := 8) (x' := (x.1, s10)) xK (hx c4) (by decide) rfl; have e2 := flat_set (enc := cellsP) (o := 8) (x' := (({ x.1 with unw := x.1.unw ++ [f.fn] } : PanI), (⟨s10.A, s10.n, s10.c⟩ : Sl))) xK (hx c4) (by decide) rfl; have hh := hS; simp only [rP, encP] at hh ⊢; rw [← e2, e1]; exact hh
    replace hS := hS.pickN 12 [1, 2, 0, 3, 4, 5, 6, 7, 8, 9, 10, 11];replace hS : Sat w0 w ((jW (yQ (s.us.set f.pan.toNat (({ x.1 with unw := x.1.unw ++ [f.fn] } : PanI), (⟨s10.A, s10.n, s10.c⟩ : Sl))))) :: (SX.blk b5 [iv f.fn] 3) :: (MB bm pv fuel m.made m.shared m.depth m.deepest s.tr s.ow s.ca s.pa s.re s.bp) :: (rE s.tr m.trace) :: (rI s.ow m.owners) :: (rC s.ca (m.calls.set f.id.toNat ({ c with en := f.en, val := x.1.value } : CallI))) :: (rP s.pa (s.us.set f.pan.toNat (({ x.1 with unw := x.1.unw ++ [f.fn] } : PanI), (⟨s10.A, s10.n, s10.c⟩ : Sl)))) :: (rV s.re m.recs) :: (yY s.bp m.places) :: (FB bf f.id f.fn f.r0 f.r1 f.r2 f.r3 t (fpv) f.dfr f.cnt f.lvg f.en f.pan) :: (rQ t f.runs) :: Rs) := Sat.putAt (g := unwA) (y := (({ x.1 with unw := x.1.unw ++ [f.fn] } : PanI), (⟨s10.A, s10.n, s10.c⟩ : Sl))) (hx c4) hS;replace hS := hS.pickN 11 [2, 3, 4, 5, 6, 0, 7, 8, 1, 9, 10];obtain ⟨m_2, hm_2⟩ : ∃ z_ : MS, z_ = (⟨m.made, m.shared, m.depth, m.deepest, m.trace, m.owners, (m.calls.set f.id.toNat ({ c with en := f.en, val := x.1.value } : CallI)), (panAt m.panics f.pan (fun z => { z with unw := z.unw ++ [f.fn] })), m.recs, m.places⟩ : MS) := ⟨_, rfl⟩;replace hS : Sat w0 w ((mch bm pv fuel m_2) :: (SX.blk b5 [iv f.fn] 3) :: (FB bf f.id f.fn f.r0 f.r1 f.r2 f.r3 t (fpv) f.dfr f.cnt f.lvg f.en f.pan) :: (rQ t f.runs) :: Rs) := by rw [hm_2]; exact Sat.shutM (⟨s.tr, s.ow, s.ca, s.pa, s.re, (s.us.set f.pan.toNat (({ x.1 with unw := x.1.unw ++ [f.fn] } : PanI), (⟨s10.A, s10.n, s10.c⟩ : Sl))), s.bp⟩ : MSl) (panAt_us (g := fun z => { z with unw := z.unw ++ [f.fn] }) hs (hx c4)) hS
    refine jH 11 (qG 95 (vs := [ptr bm 0, iv 8, iv f.fn, iv x.1.value, iv f.id]) ha (tell_calls w0 w _ bm pv fuel m_2 8 f.fn x.1.value f.id hS (by rw [hm_2]; have := hm.bnd; have := hm.own; have := hm.made1; simp only []; omega)) fun v12 w a hp13 ha => ?_);obtain ⟨rfl, hS⟩ := hp13;refine xJ (xX ?_);replace ha := ha.as [] rfl;refine end_none ha (by kernel_rfl) ⟨rfl, ?_⟩
    have hE : m_2.tell 8 f.fn x.1.value f.id = finishS m f := by
      rw [hm_2]; simp only [finishS, finVal, finKind, MS.tell, c1, c4, show ¬ ((1 : Int) = 2) by decide, show ¬ ((2 : Int) = 1) by decide, if_true, if_false, modify_get hc, List.set_set, panVal_us hs (hx c4)]
    replace hS := hS.pickN 4 [0, 2, 3];exact Sat.shutF1 (f := f) t (by rw [← hE]; exact hS)
  refine jV ha rfl (decide_eq_false c4) ?_
  refine wp_skip (in_n (jJ (wp_seq (xH 24 29 hS fun w hS => ?_))))
  refine jK (k := 26) [(0, 57, ptr bm 0), (1, 58, ptr bm 0), (2, 59, ptr bm 8)] ha (.inr hS) fun a ha => ?_
  refine qW 3 (d := 60) (b := bm) (j := 8) ha hS (fun _ hw => hw.blk 0 rfl) rfl fun a ha => ?_
  refine jK (k := 22) [(4, 61, ptr bf 0), (5, 62, ptr bf 0), (6, 63, ptr bf 0)] ha (.inr hS) fun a ha => ?_
  refine qW 7 (d := 64) (b := bf) (j := 0) ha hS (fun _ hw => hw.blk 8 rfl) rfl fun a ha => ?_
  refine jK (k := 18) [(8, 65, ptr bm 0), (9, 66, ptr bm 0), (10, 67, ptr bm 8)] ha (.inr hS) fun a ha => ?_
  refine qW 11 (d := 68) (b := bm) (j := 8) ha hS (fun _ hw => hw.blk 0 rfl) rfl fun a ha => ?_
  refine jK (k := 14) [(12, 69, ptr bf 0), (13, 70, ptr bf 0), (14, 71, ptr bf 0)] ha (.inr hS) fun a ha => ?_
  refine qW 15 (d := 72) (b := bf) (j := 0) ha hS (fun _ hw => hw.blk 8 rfl) rfl fun a ha => ?_
  refine jK (k := 10) [(16, 73, ptr bf 0), (17, 74, ptr bf 0), (18, 75, ptr bf 11)] ha (.inr hS) fun a ha => ?_
  refine qW 19 (d := 76) (b := bf) (j := 11) ha hS (fun _ hw => hw.blk 8 rfl) rfl fun a ha => ?_
  refine jK (k := 8) [(20, 77, iv 0)] ha (.inr hS) fun a ha => ?_
  refine zQ 21 (.pointer (some ⟨bk s.ca, f.id.toNat * 6, none⟩)) ha (xW (s := s.ca) (el := 147) (sz := 6) (j := f.id.toNat) ha (yU (t := 86) (x := 60) (y := 64) (d := 78)) rfl rfl (by kernel_rfl) (by kernel_rfl) (hS.rowA (s := s.ca) 3 rfl (by have := (List.getElem?_eq_some_iff.1 hc).1; rw [encC_length]; omega)) ((Int.toNat_of_nonneg hf.id0).symm) (by have h9 := hS.rowL (s := s.ca) (enc := cellsC) 3 zG (by decide) rfl; have := (List.getElem?_eq_some_iff.1 hc).1; omega)) (.inr hS) fun a ha => ?_
  refine jK (k := 5) [(22, 79, .pointer (some ⟨bk s.ca, f.id.toNat * 6, none⟩)), (23, 80, .pointer (some ⟨bk s.ca, f.id.toNat * 6 + 3, none⟩))] ha (.inr hS) fun a ha => ?_
  refine jH 24 (zZ (s := s.ca) (j := f.id.toNat * 6 + 3) (xs := encC m.calls) (xs' := encC (m.calls.set f.id.toNat ({ c with en := f.en } : CallI))) 3 ha (qU (t := 3) (x := 80) (y := 76)) rfl rfl rfl (by kernel_rfl) hS rfl (by have := (List.getElem?_eq_some_iff.1 hc).1; rw [encC_length]; omega) ((flat_set (enc := cellsC) (x' := ({ c with en := f.en } : CallI)) zG hc (by decide) rfl)) (fun w a (hS : Sat w0 w ((MB bm pv fuel m.made m.shared m.depth m.deepest s.tr s.ow s.ca s.pa s.re s.bp) :: (rE s.tr m.trace) :: (rI s.ow m.owners) :: (rC s.ca (m.calls.set f.id.toNat ({ c with en := f.en } : CallI))) :: (rP s.pa s.us) :: (jW (yQ s.us)) :: (rV s.re m.recs) :: (yY s.bp m.places) :: (FB bf f.id f.fn f.r0 f.r1 f.r2 f.r3 t (fpv) f.dfr f.cnt f.lvg f.en f.pan) :: (rQ t f.runs) :: Rs)) ha => ?_))
  refine xJ (zQ 25 (.pointer (some ⟨bk s.ca, f.id.toNat * 6, none⟩)) ha (xW (s := s.ca) (el := 147) (sz := 6) (j := f.id.toNat) ha (yU (t := 86) (x := 68) (y := 72) (d := 81)) rfl rfl (by kernel_rfl) (by kernel_rfl) (hS.rowA (s := s.ca) 3 rfl (by have := (List.getElem?_eq_some_iff.1 (set_get hc ({ c with en := f.en } : CallI))).1; rw [encC_length]; omega)) ((Int.toNat_of_nonneg hf.id0).symm) (by have h9 := hS.rowL (s := s.ca) (enc := cellsC) 3 zG (by decide) rfl; have := (List.getElem?_eq_some_iff.1 (set_get hc ({ c with en := f.en } : CallI))).1; omega)) (.inl (by kernel_rfl)) fun a ha => ?_)
  refine jK (k := 1) [(26, 82, .pointer (some ⟨bk s.ca, f.id.toNat * 6, none⟩)), (27, 83, .pointer (some ⟨bk s.ca, f.id.toNat * 6 + 4, none⟩))] ha (.inl (by kernel_rfl)) fun a ha => ?_
  refine jH 28 (zZ (s := s.ca) (j := f.id.toNat * 6 + 4) (xs := encC (m.calls.set f.id.toNat ({ c with en := f.en } : CallI))) (xs' := encC (m.calls.set f.id.toNat ({ c with en := f.en, val := 0 } : CallI))) 3 ha (qU (t := 3) (x := 83) (y := 77)) rfl rfl rfl (by kernel_rfl) hS rfl (by have := (List.getElem?_eq_some_iff.1 (set_get hc ({ c with en := f.en } : CallI))).1; rw [encC_length]; omega) ((flat_set (enc := cellsC) (x' := ({ c with en := f.en, val := 0 } : CallI)) zG (set_get hc ({ c with en := f.en } : CallI)) (by decide) rfl).trans (by rw [List.set_set]; rfl)) (fun w a (hS : Sat w0 w ((MB bm pv fuel m.made m.shared m.depth m.deepest s.tr s.ow s.ca s.pa s.re s.bp) :: (rE s.tr m.trace) :: (rI s.ow m.owners) :: (rC s.ca (m.calls.set f.id.toNat ({ c with en := f.en, val := 0 } : CallI))) :: (rP s.pa s.us) :: (jW (yQ s.us)) :: (rV s.re m.recs) :: (yY s.bp m.places) :: (FB bf f.id f.fn f.r0 f.r1 f.r2 f.r3 t (fpv) f.dfr f.cnt f.lvg f.en f.pan) :: (rQ t f.runs) :: Rs)) ha => ?_))
  refine xJ (xX ?_)
  replace ha := ha.as [(0, ptr bm 0), (1, ptr bf 0), (4, iv 9), (5, iv 0)] rfl
  refine jJ (xH 11 12 hS fun w hS => ?_)
  refine jK (k := 7) [(0, 84, ptr bm 0), (1, 85, iv 9), (2, 86, ptr bf 0), (3, 87, ptr bf 0), (4, 88, ptr bf 1)] ha (.inr hS) fun a ha => ?_
  refine qW 5 (d := 89) (b := bf) (j := 1) ha hS (fun _ hw => hw.blk 8 rfl) rfl fun a ha => ?_
  refine jK (k := 2) [(6, 90, iv 0), (7, 91, ptr bf 0), (8, 92, ptr bf 0), (9, 93, ptr bf 0)] ha (.inr hS) fun a ha => ?_
  refine qW 10 (d := 94) (b := bf) (j := 0) ha hS (fun _ hw => hw.blk 8 rfl) rfl fun a ha => ?_
  replace hS : Sat w0 w ((MB bm pv fuel m.made m.shared m.depth m.deepest s.tr s.ow s.ca s.pa s.re s.bp) :: (rE s.tr m.trace) :: (rI s.ow m.owners) :: (rC s.ca (m.calls.set f.id.toNat ({ c with en := f.en, val := 0 } : CallI))) :: (rP s.pa s.us) :: (jW (yQ s.us)) :: (rV s.re m.recs) :: (yY s.bp m.places) :: (FB bf f.id f.fn f.r0 f.r1 f.r2 f.r3 t (fpv) f.dfr f.cnt f.lvg f.en f.pan) :: (rQ t f.runs) :: Rs) := hS
  obtain ⟨m_3, hm_3⟩ : ∃ z_ : MS, z_ = (⟨m.made, m.shared, m.depth, m.deepest, m.trace, m.owners, (m.calls.set f.id.toNat ({ c with en := f.en, val := 0 } : CallI)), m.panics, m.recs, m.places⟩ : MS) := ⟨_, rfl⟩
  replace hS : Sat w0 w ((mch bm pv fuel m_3) :: (FB bf f.id f.fn f.r0 f.r1 f.r2 f.r3 t (fpv) f.dfr f.cnt f.lvg f.en f.pan) :: (rQ t f.runs) :: Rs) := by rw [hm_3]; exact Sat.shutM (⟨s.tr, s.ow, s.ca, s.pa, s.re, s.us, s.bp⟩ : MSl) (hs) hS
  refine jH 11 (qG 95 (vs := [ptr bm 0, iv 9, iv f.fn, iv 0, iv f.id]) ha (tell_calls w0 w _ bm pv fuel m_3 9 f.fn 0 f.id hS (by rw [hm_3]; have := hm.bnd; have := hm.own; have := hm.made1; simp only []; omega)) fun v14 w a hp15 ha => ?_)
  obtain ⟨rfl, hS⟩ := hp15
  refine xJ (xX ?_)
  replace ha := ha.as [] rfl
  refine end_none ha (by kernel_rfl) ⟨rfl, ?_⟩
  have hE : m_3.tell 9 f.fn 0 f.id = finishS m f := by
    rw [hm_3]; simp only [finishS, finVal, finKind, MS.tell, c1, c4, show ¬ ((1 : Int) = 2) by decide, show ¬ ((2 : Int) = 1) by decide, if_true, if_false, modify_get hc, List.set_set]
  replace hS : Sat w0 w ((mch bm pv fuel (m_3.tell 9 f.fn 0 f.id)) :: (FB bf f.id f.fn f.r0 f.r1 f.r2 f.r3 t (fpv) f.dfr f.cnt f.lvg f.en f.pan) :: (rQ t f.runs) :: Rs) := hS
  exact Sat.shutF1 (f := f) t (by rw [← hE]; exact hS)
theorem code108 : Try.f108.body = some (Code.seq (cr Try.f108 0 false) (Code.seq (cr Try.f108 1 false) (Code.block 0 (Code.seq (cr Try.f108 2 false) (Code.cond (Operand.tmp 32) (Code.seq (Code.seq (cr Try.f108 3 false) (Code.cond (Operand.tmp 38) (Code.seq (cr Try.f108 4 true) (cr Try.f108 5 true)) Code.skip)) (cr Try.f108 6 false)) (Code.seq (cr Try.f108 7 false) (Code.cond (Operand.tmp 87) (Code.seq (Code.seq (cr Try.f108 8 false) (Code.cond (Operand.tmp 93) (cr Try.f108 9 true) Code.skip)) (cr Try.f108 10 false)) (Code.seq (cr Try.f108 11 false) (Code.cond (Operand.tmp 107) (cr Try.f108 12 false) (Code.seq (cr Try.f108 13 false) (Code.cond (Operand.tmp 121) (cr Try.f108 14 false) Code.skip))))))))))) := by kernel_rfl
theorem behind_calls (w0 w : World) (Rs : List Asn) (bm bf bd : Nat) (pv : Sl) (fuel : Int) (m : MS) (f d : FS) (fpv dpv : Value) (n : Nat) (hS : Sat w0 w (mch bm pv fuel m :: frm bf f fpv :: frm bd d dpv :: Rs)) (hf : OkF n m f) (hd : OkF n m d) :
    Calls Try.prog 108 #[.pointer (some ⟨bm, 0, none⟩), .pointer (some ⟨bf, 0, none⟩), .pointer (some ⟨bd, 0, none⟩)] w (Ret fun r w' => r = .tuple #[] ∧ Sat w0 w' (mch bm pv fuel (yK m f d) :: frm bf (yZ f d) fpv :: frm bd d dpv :: Rs)) := by
  obtain ⟨s, t, t', hs, hS⟩ := hS.openMFF
  replace hS : Sat w0 w ((MB bm pv fuel m.made m.shared m.depth m.deepest s.tr s.ow s.ca s.pa s.re s.bp) :: (rE s.tr m.trace) :: (rI s.ow m.owners) :: (rC s.ca m.calls) :: (rP s.pa s.us) :: (jW (yQ s.us)) :: (rV s.re m.recs) :: (yY s.bp m.places) :: (FB bf f.id f.fn f.r0 f.r1 f.r2 f.r3 t (fpv) f.dfr f.cnt f.lvg f.en f.pan) :: (rQ t f.runs) :: (FB bd d.id d.fn d.r0 d.r1 d.r2 d.r3 t' (dpv) d.dfr d.cnt d.lvg d.en d.pan) :: (rQ t' d.runs) :: Rs) := hS
  obtain ⟨x, hx⟩ : ∃ x : PanS, f.en = 2 → s.us[f.pan.toNat]? = some x := by
    by_cases h : f.en = 2
    · obtain ⟨x, hx⟩ := us_get hs (hf.pan h).1 (hf.pan h).2
      exact ⟨x, fun _ => hx⟩
    · exact ⟨default, fun h' => absurd h' h⟩
  refine enter (n := 129) Try.func108 code108 (by kernel_rfl) (Nat.le_of_ble_eq_true rfl) (fun a ha => ?_)
  replace ha : Has 129 [(0, ptr bm 0), (1, ptr bf 0), (2, ptr bd 0)] a := ha
  refine kG (J := fun a_ w_ => Has 129 [(0, ptr bm 0), (1, ptr bf 0), (2, ptr bd 0)] a_ ∧ Sat w0 w_ ((MB bm pv fuel m.made m.shared m.depth m.deepest s.tr s.ow s.ca s.pa s.re s.bp) :: (rE s.tr m.trace) :: (rI s.ow m.owners) :: (rC s.ca m.calls) :: (rP s.pa s.us) :: (jW (yQ s.us)) :: (rV s.re m.recs) :: (yY s.bp m.places) :: (FB bf f.id f.fn f.r0 f.r1 f.r2 f.r3 t (fpv) f.dfr f.cnt (f.lvg || d.lvg) f.en f.pan) :: (rQ t f.runs) :: (FB bd d.id d.fn d.r0 d.r1 d.r2 d.r3 t' (dpv) d.dfr d.cnt d.lvg d.en d.pan) :: (rQ t' d.runs) :: Rs)) ?_ ?_
  ·
    refine jX [0, 1, 2, 3, 4, 5, 6, 7, 8, 9, 10, 11, 12, 13] (jQ [(0, 7, ptr bf 0), (1, 8, ptr bf 0), (2, 9, ptr bf 0), (3, 10, ptr bf 10)] ha fun a ha => ?_);refine jU (d := 11) (b := bf) (j := 10) ha (hS.blk 8 rfl) rfl fun a ha => ?_;refine jQ [(5, 12, .bool f.lvg)] ha fun a ha => ?_
    rcases Bool.eq_false_or_eq_true f.lvg with c1 | c1
    ·
      replace ha := ha.turn 11 (.bool true) rfl (congrArg Value.bool c1);replace ha := ha.turn 12 (.bool true) rfl (congrArg Value.bool c1);refine jQ [(6, 13, undef), (7, 14, undef), (8, 15, undef), (9, 16, undef), (10, 17, .bool true), (11, 18, ptr bf 0), (12, 19, ptr bf 10)] ha fun a ha => ?_;refine jZ (qH bf 10 (.bool true) 8 ha hS rfl rfl fun w a hS ha => ?_);refine jY ?_;have e2 : (f.lvg || d.lvg) = true := by simp [onB, c1]
      refine jJ ⟨?_, ?_⟩
      · first | (rw [e2]; exact ha.keeps [0, 1, 2] _ rfl) | exact ha.keeps [0, 1, 2] _ rfl
      · first | (rw [e2]; exact hS) | exact hS
    replace ha := ha.turn 11 (.bool false) rfl (congrArg Value.bool c1);replace ha := ha.turn 12 (.bool false) rfl (congrArg Value.bool c1);refine jQ [(6, 13, ptr bd 0), (7, 14, ptr bd 0), (8, 15, ptr bd 10)] ha fun a ha => ?_;refine jU (d := 16) (b := bd) (j := 10) ha (hS.blk 10 rfl) rfl fun a ha => ?_;refine jQ [(10, 17, .bool d.lvg), (11, 18, ptr bf 0), (12, 19, ptr bf 10)] ha fun a ha => ?_;refine jZ (qH bf 10 (.bool d.lvg) 8 ha hS rfl rfl fun w a hS ha => ?_);refine jY ?_;have e3 : (f.lvg || d.lvg) = d.lvg := by simp [onB, c1]
    refine jJ ⟨?_, ?_⟩
    · first | (rw [e3]; exact ha.keeps [0, 1, 2] _ rfl) | exact ha.keeps [0, 1, 2] _ rfl
    · first | (rw [e3]; exact hS) | exact hS
  rintro a w ⟨ha, hS⟩
  refine kG (J := fun a_ w_ => Has 129 [(0, ptr bm 0), (1, ptr bf 0), (2, ptr bd 0), (6, .bool (onB f d))] a_ ∧ Sat w0 w_ ((MB bm pv fuel m.made m.shared m.depth m.deepest s.tr s.ow s.ca s.pa s.re s.bp) :: (rE s.tr m.trace) :: (rI s.ow m.owners) :: (rC s.ca m.calls) :: (rP s.pa s.us) :: (jW (yQ s.us)) :: (rV s.re m.recs) :: (yY s.bp m.places) :: (FB bf f.id f.fn f.r0 f.r1 f.r2 f.r3 t (fpv) f.dfr f.cnt (f.lvg || d.lvg) f.en f.pan) :: (rQ t f.runs) :: (FB bd d.id d.fn d.r0 d.r1 d.r2 d.r3 t' (dpv) d.dfr d.cnt d.lvg d.en d.pan) :: (rQ t' d.runs) :: Rs)) ?_ ?_
  ·
    refine jX [0, 1, 2, 3, 4, 5, 6, 7, 8, 9, 10, 11, 12] (jQ [(0, 20, ptr bf 0), (1, 21, ptr bf 0), (2, 22, ptr bf 11)] ha fun a ha => ?_);refine jU (d := 23) (b := bf) (j := 11) ha (hS.blk 8 rfl) rfl fun a ha => ?_;refine jQ [(4, 24, .bool (decide (f.en = 2))), (5, 25, .bool (decide (f.en = 2)))] ha fun a ha => ?_
    by_cases c4 : f.en = 2
    ·
      replace ha := ha.turn 24 (.bool true) rfl (congrArg Value.bool (decide_eq_true c4));replace ha := ha.turn 25 (.bool true) rfl (congrArg Value.bool (decide_eq_true c4));refine jQ [(6, 26, ptr bd 0), (7, 27, ptr bd 0), (8, 28, ptr bd 9)] ha fun a ha => ?_;refine jU (d := 29) (b := bd) (j := 9) ha (hS.blk 10 rfl) rfl fun a ha => ?_;refine jQ [(10, 30, .bool (!(d.cnt))), (11, 31, .bool (!(d.cnt))), (12, 6, .bool (!(d.cnt)))] ha fun a ha => ?_;refine jY ?_;have e5 : (onB f d) = (!(d.cnt)) := by simp [onB, c4]
      refine jJ ⟨?_, ?_⟩
      · first | (rw [e5]; exact ha.keeps [0, 1, 2, 6] _ rfl) | exact ha.keeps [0, 1, 2, 6] _ rfl
      · first | (rw [e5]; exact hS) | exact hS
    replace ha := ha.turn 24 (.bool false) rfl (congrArg Value.bool (decide_eq_false c4));replace ha := ha.turn 25 (.bool false) rfl (congrArg Value.bool (decide_eq_false c4));refine jQ [(6, 26, undef), (7, 27, undef), (8, 28, undef), (9, 29, undef), (10, 30, undef), (11, 31, .bool false), (12, 6, .bool false)] ha fun a ha => ?_;refine jY ?_;have e6 : (onB f d) = false := by simp [onB, c4]
    refine jJ ⟨?_, ?_⟩
    · first | (rw [e6]; exact ha.keeps [0, 1, 2, 6] _ rfl) | exact ha.keeps [0, 1, 2, 6] _ rfl
    · first | (rw [e6]; exact hS) | exact hS
  rintro a w ⟨ha, hS⟩
  refine wp_block (wp_seq (jX [0, 1, 2, 3, 4, 5] (jQ [(0, 33, ptr bd 0), (1, 34, ptr bd 0), (2, 35, ptr bd 11)] ha fun a ha => ?_)))
  refine jU (d := 36) (b := bd) (j := 11) ha (hS.blk 10 rfl) rfl fun a ha => ?_
  refine jQ [(4, 37, .bool (decide (d.en = 2))), (5, 32, .bool (decide (d.en = 2)))] ha fun a ha => ?_
  refine jY (jJ ?_)
  by_cases c7 : d.en = 2
  ·
    refine jG ha rfl (decide_eq_true c7) ?_;refine wp_seq (wp_seq (jX [0] (jQ [(0, 38, .bool (onB f d))] ha fun a ha => ?_)));refine jY (jJ ?_)
    rcases Bool.eq_false_or_eq_true (onB f d) with c8 | c8
    ·
      refine jG ha rfl c8 ?_;refine wp_seq ?_;have hfe : f.en = 2 := by have h := c8; simp [onB] at h; exact h.1
      refine xH 22 26 hS fun w hS => ?_;refine jK (k := 23) [(0, 39, ptr bm 0), (1, 40, ptr bm 0), (2, 41, ptr bm 9)] ha (.inr hS) fun a ha => ?_;refine qW 3 (d := 42) (b := bm) (j := 9) ha hS (fun _ hw => hw.blk 0 rfl) rfl fun a ha => ?_;refine jK (k := 19) [(4, 43, ptr bf 0), (5, 44, ptr bf 0), (6, 45, ptr bf 12)] ha (.inr hS) fun a ha => ?_;refine qW 7 (d := 46) (b := bf) (j := 12) ha hS (fun _ hw => hw.blk 8 rfl) rfl fun a ha => ?_;refine jK (k := 15) [(8, 47, ptr bm 0), (9, 48, ptr bm 0), (10, 49, ptr bm 9)] ha (.inr hS) fun a ha => ?_;refine qW 11 (d := 50) (b := bm) (j := 9) ha hS (fun _ hw => hw.blk 0 rfl) rfl fun a ha => ?_;refine jK (k := 11) [(12, 51, ptr bf 0), (13, 52, ptr bf 0), (14, 53, ptr bf 12)] ha (.inr hS) fun a ha => ?_;refine qW 15 (d := 54) (b := bf) (j := 12) ha hS (fun _ hw => hw.blk 8 rfl) rfl fun a ha => ?_;refine jK (k := 7) [(16, 55, ptr bd 0), (17, 56, ptr bd 0), (18, 57, ptr bd 12)] ha (.inr hS) fun a ha => ?_;refine qW 19 (d := 58) (b := bd) (j := 12) ha hS (fun _ hw => hw.blk 10 rfl) rfl fun a ha => ?_;refine zQ 20 (.pointer (some ⟨bk s.pa, f.pan.toNat * 9, none⟩)) ha (xW (s := s.pa) (el := 113) (sz := 9) (j := f.pan.toNat) ha (yU (t := 87) (x := 42) (y := 46) (d := 59)) rfl rfl (by kernel_rfl) (by kernel_rfl) (hS.rowA (s := s.pa) 4 rfl (by have := (List.getElem?_eq_some_iff.1 (hx hfe)).1; rw [encP_length]; omega)) ((Int.toNat_of_nonneg (hf.pan hfe).1).symm) (by have h9 := hS.rowL (s := s.pa) (enc := cellsP) 4 xK (by decide) rfl; have := (List.getElem?_eq_some_iff.1 (hx hfe)).1; omega)) (.inr hS) fun a ha => ?_;refine jK (k := 4) [(21, 60, .pointer (some ⟨bk s.pa, f.pan.toNat * 9 + 4, none⟩))] ha (.inr hS) fun a ha => ?_;refine jH 22 (zZ (s := s.pa) (j := f.pan.toNat * 9 + 4) (xs := encP s.us) (xs' := encP (s.us.set f.pan.toNat (({ x.1 with fate := 2 } : PanI), x.2))) 4 ha (zW (op := (Op.store 3 (Operand.tmp 60) (Operand.const (Value.int IntKind.i64 2)))) (ty := 0)) rfl rfl rfl (by kernel_rfl) hS rfl (by have := (List.getElem?_eq_some_iff.1 (hx hfe)).1; rw [encP_length]; omega) ((flat_set (enc := cellsP) (x' := (({ x.1 with fate := 2 } : PanI), x.2)) xK (hx hfe) (by decide) rfl)) (fun w a (hS : Sat w0 w ((MB bm pv fuel m.made m.shared m.depth m.deepest s.tr s.ow s.ca s.pa s.re s.bp) :: (rE s.tr m.trace) :: (rI s.ow m.owners) :: (rC s.ca m.calls) :: (rP s.pa (s.us.set f.pan.toNat (({ x.1 with fate := 2 } : PanI), x.2))) :: (jW (yQ s.us)) :: (rV s.re m.recs) :: (yY s.bp m.places) :: (FB bf f.id f.fn f.r0 f.r1 f.r2 f.r3 t (fpv) f.dfr f.cnt (f.lvg || d.lvg) f.en f.pan) :: (rQ t f.runs) :: (FB bd d.id d.fn d.r0 d.r1 d.r2 d.r3 t' (dpv) d.dfr d.cnt d.lvg d.en d.pan) :: (rQ t' d.runs) :: Rs)) ha => ?_));refine xJ (zQ 23 (.pointer (some ⟨bk s.pa, f.pan.toNat * 9, none⟩)) ha (xW (s := s.pa) (el := 113) (sz := 9) (j := f.pan.toNat) ha (yU (t := 87) (x := 50) (y := 54) (d := 61)) rfl rfl (by kernel_rfl) (by kernel_rfl) (hS.rowA (s := s.pa) 4 rfl (by have := (List.getElem?_eq_some_iff.1 (set_get (hx hfe) (({ x.1 with fate := 2 } : PanI), x.2))).1; rw [encP_length]; omega)) ((Int.toNat_of_nonneg (hf.pan hfe).1).symm) (by have h9 := hS.rowL (s := s.pa) (enc := cellsP) 4 xK (by decide) rfl; have := (List.getElem?_eq_some_iff.1 (set_get (hx hfe) (({ x.1 with fate := 2 } : PanI), x.2))).1; omega)) (.inl (by kernel_rfl)) fun a ha => ?_)
      refine jK (k := 1) [(24, 62, .pointer (some ⟨bk s.pa, f.pan.toNat * 9 + 5, none⟩))] ha (.inl (by kernel_rfl)) fun a ha => ?_;refine jH 25 (zZ (s := s.pa) (j := f.pan.toNat * 9 + 5) (xs := encP (s.us.set f.pan.toNat (({ x.1 with fate := 2 } : PanI), x.2))) (xs' := encP (s.us.set f.pan.toNat (({ x.1 with fate := 2, by_ := d.pan } : PanI), x.2))) 4 ha (qU (t := 3) (x := 62) (y := 58)) rfl rfl rfl (by kernel_rfl) hS rfl (by have := (List.getElem?_eq_some_iff.1 (set_get (hx hfe) (({ x.1 with fate := 2 } : PanI), x.2))).1; rw [encP_length]; omega) ((flat_set (enc := cellsP) (x' := (({ x.1 with fate := 2, by_ := d.pan } : PanI), x.2)) xK (set_get (hx hfe) (({ x.1 with fate := 2 } : PanI), x.2)) (by decide) rfl).trans (by rw [List.set_set]; rfl)) (fun w a (hS : Sat w0 w ((MB bm pv fuel m.made m.shared m.depth m.deepest s.tr s.ow s.ca s.pa s.re s.bp) :: (rE s.tr m.trace) :: (rI s.ow m.owners) :: (rC s.ca m.calls) :: (rP s.pa (s.us.set f.pan.toNat (({ x.1 with fate := 2, by_ := d.pan } : PanI), x.2))) :: (jW (yQ s.us)) :: (rV s.re m.recs) :: (yY s.bp m.places) :: (FB bf f.id f.fn f.r0 f.r1 f.r2 f.r3 t (fpv) f.dfr f.cnt (f.lvg || d.lvg) f.en f.pan) :: (rQ t f.runs) :: (FB bd d.id d.fn d.r0 d.r1 d.r2 d.r3 t' (dpv) d.dfr d.cnt d.lvg d.en d.pan) :: (rQ t' d.runs) :: Rs)) ha => ?_));refine xJ (xX ?_);replace ha := ha.as [(0, ptr bm 0), (1, ptr bf 0), (2, ptr bd 0)] rfl;refine jJ ?_;obtain ⟨y, hy⟩ : ∃ y : PanS, ((s.us.set f.pan.toNat (({ x.1 with fate := 2, by_ := d.pan } : PanI), x.2)))[d.pan.toNat]? = some y := get_int _ (hd.pan c7).1 (by have := (hd.pan c7).2; rw [← hs, List.length_map] at this; simpa using this);refine xH 14 15 hS fun w hS => ?_;refine jK (k := 12) [(0, 63, ptr bm 0), (1, 64, ptr bm 0), (2, 65, ptr bm 9)] ha (.inr hS) fun a ha => ?_;refine qW 3 (d := 66) (b := bm) (j := 9) ha hS (fun _ hw => hw.blk 0 rfl) rfl fun a ha => ?_;refine jK (k := 8) [(4, 67, ptr bd 0), (5, 68, ptr bd 0), (6, 69, ptr bd 12)] ha (.inr hS) fun a ha => ?_;refine qW 7 (d := 70) (b := bd) (j := 12) ha hS (fun _ hw => hw.blk 10 rfl) rfl fun a ha => ?_;refine jK (k := 4) [(8, 71, ptr bf 0), (9, 72, ptr bf 0), (10, 73, ptr bf 12)] ha (.inr hS) fun a ha => ?_;refine qW 11 (d := 74) (b := bf) (j := 12) ha hS (fun _ hw => hw.blk 8 rfl) rfl fun a ha => ?_;refine zQ 12 (.pointer (some ⟨bk s.pa, d.pan.toNat * 9, none⟩)) ha (xW (s := s.pa) (el := 113) (sz := 9) (j := d.pan.toNat) ha (yU (t := 87) (x := 66) (y := 70) (d := 75)) rfl rfl (by kernel_rfl) (by kernel_rfl) (hS.rowA (s := s.pa) 4 rfl (by have := (List.getElem?_eq_some_iff.1 hy).1; rw [encP_length]; omega)) ((Int.toNat_of_nonneg (hd.pan c7).1).symm) (by have h9 := hS.rowL (s := s.pa) (enc := cellsP) 4 xK (by decide) rfl; have := (List.getElem?_eq_some_iff.1 hy).1; omega)) (.inr hS) fun a ha => ?_;refine jK (k := 1) [(13, 76, .pointer (some ⟨bk s.pa, d.pan.toNat * 9 + 6, none⟩))] ha (.inr hS) fun a ha => ?_;refine jH 14 (zZ (s := s.pa) (j := d.pan.toNat * 9 + 6) (xs := encP (s.us.set f.pan.toNat (({ x.1 with fate := 2, by_ := d.pan } : PanI), x.2))) (xs' := encP ((s.us.set f.pan.toNat (({ x.1 with fate := 2, by_ := d.pan } : PanI), x.2)).set d.pan.toNat (({ y.1 with last := f.pan } : PanI), y.2))) 4 ha (qU (t := 3) (x := 76) (y := 74)) rfl rfl rfl (by kernel_rfl) hS rfl (by have := (List.getElem?_eq_some_iff.1 hy).1; rw [encP_length]; omega) ((flat_set (enc := cellsP) (x' := (({ y.1 with last := f.pan } : PanI), y.2)) xK hy (by decide) rfl)) (fun w a (hS : Sat w0 w ((MB bm pv fuel m.made m.shared m.depth m.deepest s.tr s.ow s.ca s.pa s.re s.bp) :: (rE s.tr m.trace) :: (rI s.ow m.owners) :: (rC s.ca m.calls) :: (rP s.pa ((s.us.set f.pan.toNat (({ x.1 with fate := 2, by_ := d.pan } : PanI), x.2)).set d.pan.toNat (({ y.1 with last := f.pan } : PanI), y.2))) :: (jW (yQ s.us)) :: (rV s.re m.recs) :: (yY s.bp m.places) :: (FB bf f.id f.fn f.r0 f.r1 f.r2 f.r3 t (fpv) f.dfr f.cnt (f.lvg || d.lvg) f.en f.pan) :: (rQ t f.runs) :: (FB bd d.id d.fn d.r0 d.r1 d.r2 d.r3 t' (dpv) d.dfr d.cnt d.lvg d.en d.pan) :: (rQ t' d.runs) :: Rs)) ha => ?_))
      refine xJ (xX ?_);replace ha := ha.as [(1, ptr bf 0), (2, ptr bd 0)] rfl;refine jJ (jX [0, 1, 2, 3, 4, 5, 6, 7, 8, 9, 10, 11] (jQ [(0, 77, ptr bf 0), (1, 78, ptr bf 0), (2, 79, ptr bd 0), (3, 80, ptr bd 0), (4, 81, ptr bd 12)] ha fun a ha => ?_));refine jU (d := 82) (b := bd) (j := 12) ha (hS.blk 10 rfl) rfl fun a ha => ?_;refine jQ [(6, 83, ptr bf 0), (7, 84, ptr bf 11)] ha fun a ha => ?_;refine jZ (qH bf 11 (iv 2) 8 ha hS rfl rfl fun w a hS ha => ?_);refine jQ [(9, 85, ptr bf 0), (10, 86, ptr bf 12)] ha fun a ha => ?_;refine jZ (qH bf 12 (iv d.pan) 8 ha hS rfl rfl fun w a hS ha => ?_);refine jY (in_n ?_);replace hS : Sat w0 w ((MB bm pv fuel m.made m.shared m.depth m.deepest s.tr s.ow s.ca s.pa s.re s.bp) :: (rE s.tr m.trace) :: (rI s.ow m.owners) :: (rC s.ca m.calls) :: (rP s.pa ((s.us.set f.pan.toNat (({ x.1 with fate := 2, by_ := d.pan } : PanI), x.2)).set d.pan.toNat (({ y.1 with last := f.pan } : PanI), y.2))) :: (jW (yQ ((s.us.set f.pan.toNat (({ x.1 with fate := 2, by_ := d.pan } : PanI), x.2)).set d.pan.toNat (({ y.1 with last := f.pan } : PanI), y.2)))) :: (rV s.re m.recs) :: (yY s.bp m.places) :: (FB bf f.id f.fn f.r0 f.r1 f.r2 f.r3 t (fpv) f.dfr f.cnt (f.lvg || d.lvg) 2 d.pan) :: (rQ t f.runs) :: (FB bd d.id d.fn d.r0 d.r1 d.r2 d.r3 t' (dpv) d.dfr d.cnt d.lvg d.en d.pan) :: (rQ t' d.runs) :: Rs) := by have e : yQ ((s.us.set f.pan.toNat (({ x.1 with fate := 2, by_ := d.pan } : PanI), x.2)).set d.pan.toNat (({ y.1 with last := f.pan } : PanI), y.2)) = yQ s.us := (unwL_set (y := (({ y.1 with last := f.pan } : PanI), y.2)) hy rfl rfl).trans (unwL_set (hx hfe) rfl rfl); rw [e]; exact hS
      replace hS : Sat w0 w ((MB bm pv fuel m.made m.shared m.depth m.deepest s.tr s.ow s.ca s.pa s.re s.bp) :: (rE s.tr m.trace) :: (rI s.ow m.owners) :: (rC s.ca m.calls) :: (rP s.pa ((s.us.set f.pan.toNat (({ x.1 with fate := 2, by_ := d.pan } : PanI), x.2)).set d.pan.toNat (({ y.1 with last := f.pan } : PanI), y.2))) :: (jW (yQ ((s.us.set f.pan.toNat (({ x.1 with fate := 2, by_ := d.pan } : PanI), x.2)).set d.pan.toNat (({ y.1 with last := f.pan } : PanI), y.2)))) :: (rV s.re m.recs) :: (yY s.bp m.places) :: (FB bf f.id f.fn f.r0 f.r1 f.r2 f.r3 t (fpv) f.dfr f.cnt (f.lvg || d.lvg) 2 d.pan) :: (rQ t f.runs) :: (FB bd d.id d.fn d.r0 d.r1 d.r2 d.r3 t' (dpv) d.dfr d.cnt d.lvg d.en d.pan) :: (rQ t' d.runs) :: Rs) := hS;obtain ⟨m_1, hm_1⟩ : ∃ z_ : MS, z_ = (⟨m.made, m.shared, m.depth, m.deepest, m.trace, m.owners, m.calls, (panAt (panAt m.panics f.pan (fun z => { z with fate := 2, by_ := d.pan })) d.pan (fun z => { z with last := f.pan })), m.recs, m.places⟩ : MS) := ⟨_, rfl⟩;replace hS : Sat w0 w ((mch bm pv fuel m_1) :: (FB bf f.id f.fn f.r0 f.r1 f.r2 f.r3 t (fpv) f.dfr f.cnt (f.lvg || d.lvg) 2 d.pan) :: (rQ t f.runs) :: (FB bd d.id d.fn d.r0 d.r1 d.r2 d.r3 t' (dpv) d.dfr d.cnt d.lvg d.en d.pan) :: (rQ t' d.runs) :: Rs) := by rw [hm_1]; exact Sat.shutM (⟨s.tr, s.ow, s.ca, s.pa, s.re, ((s.us.set f.pan.toNat (({ x.1 with fate := 2, by_ := d.pan } : PanI), x.2)).set d.pan.toNat (({ y.1 with last := f.pan } : PanI), y.2)), s.bp⟩ : MSl) (panAt_us (g := fun z => { z with last := f.pan }) (panAt_us (g := fun z => { z with fate := 2, by_ := d.pan }) hs (hx hfe)) hy) hS
      refine end_none ha (by kernel_rfl) ⟨rfl, ?_⟩;have hE : m_1 = yK m f d := by rw [hm_1]; simp [yK, c7, c8]
      have hF : (⟨f.id, f.fn, f.r0, f.r1, f.r2, f.r3, f.runs, f.dfr, f.cnt, (f.lvg || d.lvg), 2, d.pan⟩ : FS) = yZ f d := by simp [yZ, c7, c8]
      rw [hE] at hS;have hG := Sat.shutF1 (f := (⟨f.id, f.fn, f.r0, f.r1, f.r2, f.r3, f.runs, f.dfr, f.cnt, (f.lvg || d.lvg), 2, d.pan⟩ : FS)) t hS;rw [hF] at hG;have hG2 := Sat.shutF (f := d) t' ((Sat.comm2 (l := [_, _]) (k := frmL bd d dpv t') hG));exact Sat.back (l := [_, _]) hG2
    refine jV ha rfl c8 ?_;refine wp_skip (jJ (jX [0, 1, 2, 3, 4, 5, 6, 7, 8, 9, 10, 11] (jQ [(0, 77, ptr bf 0), (1, 78, ptr bf 0), (2, 79, ptr bd 0), (3, 80, ptr bd 0), (4, 81, ptr bd 12)] ha fun a ha => ?_)));refine jU (d := 82) (b := bd) (j := 12) ha (hS.blk 10 rfl) rfl fun a ha => ?_;refine jQ [(6, 83, ptr bf 0), (7, 84, ptr bf 11)] ha fun a ha => ?_;refine jZ (qH bf 11 (iv 2) 8 ha hS rfl rfl fun w a hS ha => ?_);refine jQ [(9, 85, ptr bf 0), (10, 86, ptr bf 12)] ha fun a ha => ?_;refine jZ (qH bf 12 (iv d.pan) 8 ha hS rfl rfl fun w a hS ha => ?_);refine jY ?_;replace ha := ha.as [] rfl;refine in_n ?_;replace hS : Sat w0 w ((MB bm pv fuel m.made m.shared m.depth m.deepest s.tr s.ow s.ca s.pa s.re s.bp) :: (rE s.tr m.trace) :: (rI s.ow m.owners) :: (rC s.ca m.calls) :: (rP s.pa s.us) :: (jW (yQ s.us)) :: (rV s.re m.recs) :: (yY s.bp m.places) :: (FB bf f.id f.fn f.r0 f.r1 f.r2 f.r3 t (fpv) f.dfr f.cnt (f.lvg || d.lvg) 2 d.pan) :: (rQ t f.runs) :: (FB bd d.id d.fn d.r0 d.r1 d.r2 d.r3 t' (dpv) d.dfr d.cnt d.lvg d.en d.pan) :: (rQ t' d.runs) :: Rs) := hS;obtain ⟨m_2, hm_2⟩ : ∃ z_ : MS, z_ = (⟨m.made, m.shared, m.depth, m.deepest, m.trace, m.owners, m.calls, m.panics, m.recs, m.places⟩ : MS) := ⟨_, rfl⟩;replace hS : Sat w0 w ((mch bm pv fuel m_2) :: (FB bf f.id f.fn f.r0 f.r1 f.r2 f.r3 t (fpv) f.dfr f.cnt (f.lvg || d.lvg) 2 d.pan) :: (rQ t f.runs) :: (FB bd d.id d.fn d.r0 d.r1 d.r2 d.r3 t' (dpv) d.dfr d.cnt d.lvg d.en d.pan) :: (rQ t' d.runs) :: Rs) := by rw [hm_2]; exact Sat.shutM (⟨s.tr, s.ow, s.ca, s.pa, s.re, s.us, s.bp⟩ : MSl) (hs) hS
    refine end_none ha (by kernel_rfl) ⟨rfl, ?_⟩;have hE : m_2 = yK m f d := by rw [hm_2]; simp [yK, c7, c8]
    have hF : (⟨f.id, f.fn, f.r0, f.r1, f.r2, f.r3, f.runs, f.dfr, f.cnt, (f.lvg || d.lvg), 2, d.pan⟩ : FS) = yZ f d := by simp [yZ, c7, c8]
    rw [hE] at hS;have hG := Sat.shutF1 (f := (⟨f.id, f.fn, f.r0, f.r1, f.r2, f.r3, f.runs, f.dfr, f.cnt, (f.lvg || d.lvg), 2, d.pan⟩ : FS)) t hS;rw [hF] at hG;have hG2 := Sat.shutF (f := d) t' ((Sat.comm2 (l := [_, _]) (k := frmL bd d dpv t') hG));exact Sat.back (l := [_, _]) hG2
  refine jV ha rfl (decide_eq_false c7) ?_
  refine wp_seq (jX [0, 1, 2, 3, 4, 5] (jQ [(0, 88, ptr bd 0), (1, 89, ptr bd 0), (2, 90, ptr bd 11)] ha fun a ha => ?_))
  refine jU (d := 91) (b := bd) (j := 11) ha (hS.blk 10 rfl) rfl fun a ha => ?_
  refine jQ [(4, 92, .bool (decide (d.en = 3))), (5, 87, .bool (decide (d.en = 3)))] ha fun a ha => ?_
  refine jY (jJ ?_)
  by_cases c9 : d.en = 3
  ·
    refine jG ha rfl (decide_eq_true c9) ?_;refine wp_seq (wp_seq (jX [0] (jQ [(0, 93, .bool (onB f d))] ha fun a ha => ?_)));refine jY (jJ ?_)
    rcases Bool.eq_false_or_eq_true (onB f d) with c10 | c10
    ·
      refine jG ha rfl c10 ?_;have hfe : f.en = 2 := by have h := c10; simp [onB] at h; exact h.1
      refine xH 10 11 hS fun w hS => ?_;refine jK (k := 8) [(0, 94, ptr bm 0), (1, 95, ptr bm 0), (2, 96, ptr bm 9)] ha (.inr hS) fun a ha => ?_;refine qW 3 (d := 97) (b := bm) (j := 9) ha hS (fun _ hw => hw.blk 0 rfl) rfl fun a ha => ?_;refine jK (k := 4) [(4, 98, ptr bf 0), (5, 99, ptr bf 0), (6, 100, ptr bf 12)] ha (.inr hS) fun a ha => ?_;refine qW 7 (d := 101) (b := bf) (j := 12) ha hS (fun _ hw => hw.blk 8 rfl) rfl fun a ha => ?_;refine zQ 8 (.pointer (some ⟨bk s.pa, f.pan.toNat * 9, none⟩)) ha (xW (s := s.pa) (el := 113) (sz := 9) (j := f.pan.toNat) ha (yU (t := 87) (x := 97) (y := 101) (d := 102)) rfl rfl (by kernel_rfl) (by kernel_rfl) (hS.rowA (s := s.pa) 4 rfl (by have := (List.getElem?_eq_some_iff.1 (hx hfe)).1; rw [encP_length]; omega)) ((Int.toNat_of_nonneg (hf.pan hfe).1).symm) (by have h9 := hS.rowL (s := s.pa) (enc := cellsP) 4 xK (by decide) rfl; have := (List.getElem?_eq_some_iff.1 (hx hfe)).1; omega)) (.inr hS) fun a ha => ?_;refine jK (k := 1) [(9, 103, .pointer (some ⟨bk s.pa, f.pan.toNat * 9 + 4, none⟩))] ha (.inr hS) fun a ha => ?_;refine jH 10 (zZ (s := s.pa) (j := f.pan.toNat * 9 + 4) (xs := encP s.us) (xs' := encP (s.us.set f.pan.toNat (({ x.1 with fate := 4 } : PanI), x.2))) 4 ha (zW (op := (Op.store 3 (Operand.tmp 103) (Operand.const (Value.int IntKind.i64 4)))) (ty := 0)) rfl rfl rfl (by kernel_rfl) hS rfl (by have := (List.getElem?_eq_some_iff.1 (hx hfe)).1; rw [encP_length]; omega) ((flat_set (enc := cellsP) (x' := (({ x.1 with fate := 4 } : PanI), x.2)) xK (hx hfe) (by decide) rfl)) (fun w a (hS : Sat w0 w ((MB bm pv fuel m.made m.shared m.depth m.deepest s.tr s.ow s.ca s.pa s.re s.bp) :: (rE s.tr m.trace) :: (rI s.ow m.owners) :: (rC s.ca m.calls) :: (rP s.pa (s.us.set f.pan.toNat (({ x.1 with fate := 4 } : PanI), x.2))) :: (jW (yQ s.us)) :: (rV s.re m.recs) :: (yY s.bp m.places) :: (FB bf f.id f.fn f.r0 f.r1 f.r2 f.r3 t (fpv) f.dfr f.cnt (f.lvg || d.lvg) f.en f.pan) :: (rQ t f.runs) :: (FB bd d.id d.fn d.r0 d.r1 d.r2 d.r3 t' (dpv) d.dfr d.cnt d.lvg d.en d.pan) :: (rQ t' d.runs) :: Rs)) ha => ?_));refine xJ (xX ?_);replace ha := ha.as [(1, ptr bf 0)] rfl;refine jJ (jX [0, 1, 2, 3] (jQ [(0, 104, ptr bf 0), (1, 105, ptr bf 0), (2, 106, ptr bf 11)] ha fun a ha => ?_));refine jZ (qH bf 11 (iv 3) 8 ha hS rfl rfl fun w a hS ha => ?_);refine jY (in_n ?_);replace hS : Sat w0 w ((MB bm pv fuel m.made m.shared m.depth m.deepest s.tr s.ow s.ca s.pa s.re s.bp) :: (rE s.tr m.trace) :: (rI s.ow m.owners) :: (rC s.ca m.calls) :: (rP s.pa (s.us.set f.pan.toNat (({ x.1 with fate := 4 } : PanI), x.2))) :: (jW (yQ (s.us.set f.pan.toNat (({ x.1 with fate := 4 } : PanI), x.2)))) :: (rV s.re m.recs) :: (yY s.bp m.places) :: (FB bf f.id f.fn f.r0 f.r1 f.r2 f.r3 t (fpv) f.dfr f.cnt (f.lvg || d.lvg) 3 f.pan) :: (rQ t f.runs) :: (FB bd d.id d.fn d.r0 d.r1 d.r2 d.r3 t' (dpv) d.dfr d.cnt d.lvg d.en d.pan) :: (rQ t' d.runs) :: Rs) := by have e : yQ (s.us.set f.pan.toNat (({ x.1 with fate := 4 } : PanI), x.2)) = yQ s.us := unwL_set (hx hfe) rfl rfl; rw [e]; exact hS
      replace hS : Sat w0 w ((MB bm pv fuel m.made m.shared m.depth m.deepest s.tr s.ow s.ca s.pa s.re s.bp) :: (rE s.tr m.trace) :: (rI s.ow m.owners) :: (rC s.ca m.calls) :: (rP s.pa (s.us.set f.pan.toNat (({ x.1 with fate := 4 } : PanI), x.2))) :: (jW (yQ (s.us.set f.pan.toNat (({ x.1 with fate := 4 } : PanI), x.2)))) :: (rV s.re m.recs) :: (yY s.bp m.places) :: (FB bf f.id f.fn f.r0 f.r1 f.r2 f.r3 t (fpv) f.dfr f.cnt (f.lvg || d.lvg) 3 f.pan) :: (rQ t f.runs) :: (FB bd d.id d.fn d.r0 d.r1 d.r2 d.r3 t' (dpv) d.dfr d.cnt d.lvg d.en d.pan) :: (rQ t' d.runs) :: Rs) := hS;obtain ⟨m_3, hm_3⟩ : ∃ z_ : MS, z_ = (⟨m.made, m.shared, m.depth, m.deepest, m.trace, m.owners, m.calls, (panAt m.panics f.pan (fun z => { z with fate := 4 })), m.recs, m.places⟩ : MS) := ⟨_, rfl⟩;replace hS : Sat w0 w ((mch bm pv fuel m_3) :: (FB bf f.id f.fn f.r0 f.r1 f.r2 f.r3 t (fpv) f.dfr f.cnt (f.lvg || d.lvg) 3 f.pan) :: (rQ t f.runs) :: (FB bd d.id d.fn d.r0 d.r1 d.r2 d.r3 t' (dpv) d.dfr d.cnt d.lvg d.en d.pan) :: (rQ t' d.runs) :: Rs) := by rw [hm_3]; exact Sat.shutM (⟨s.tr, s.ow, s.ca, s.pa, s.re, (s.us.set f.pan.toNat (({ x.1 with fate := 4 } : PanI), x.2)), s.bp⟩ : MSl) (panAt_us (g := fun z => { z with fate := 4 }) hs (hx hfe)) hS
      refine end_none ha (by kernel_rfl) ⟨rfl, ?_⟩;have hE : m_3 = yK m f d := by rw [hm_3]; simp [yK, c7, c9, c10]
      have hF : (⟨f.id, f.fn, f.r0, f.r1, f.r2, f.r3, f.runs, f.dfr, f.cnt, (f.lvg || d.lvg), 3, f.pan⟩ : FS) = yZ f d := by simp [yZ, c7, c9, c10]
      rw [hE] at hS;have hG := Sat.shutF1 (f := (⟨f.id, f.fn, f.r0, f.r1, f.r2, f.r3, f.runs, f.dfr, f.cnt, (f.lvg || d.lvg), 3, f.pan⟩ : FS)) t hS;rw [hF] at hG;have hG2 := Sat.shutF (f := d) t' ((Sat.comm2 (l := [_, _]) (k := frmL bd d dpv t') hG));exact Sat.back (l := [_, _]) hG2
    refine jV ha rfl c10 ?_;refine wp_skip (jJ (jX [0, 1, 2, 3] (jQ [(0, 104, ptr bf 0), (1, 105, ptr bf 0), (2, 106, ptr bf 11)] ha fun a ha => ?_)));refine jZ (qH bf 11 (iv 3) 8 ha hS rfl rfl fun w a hS ha => ?_);refine jY ?_;replace ha := ha.as [] rfl;refine in_n ?_;replace hS : Sat w0 w ((MB bm pv fuel m.made m.shared m.depth m.deepest s.tr s.ow s.ca s.pa s.re s.bp) :: (rE s.tr m.trace) :: (rI s.ow m.owners) :: (rC s.ca m.calls) :: (rP s.pa s.us) :: (jW (yQ s.us)) :: (rV s.re m.recs) :: (yY s.bp m.places) :: (FB bf f.id f.fn f.r0 f.r1 f.r2 f.r3 t (fpv) f.dfr f.cnt (f.lvg || d.lvg) 3 f.pan) :: (rQ t f.runs) :: (FB bd d.id d.fn d.r0 d.r1 d.r2 d.r3 t' (dpv) d.dfr d.cnt d.lvg d.en d.pan) :: (rQ t' d.runs) :: Rs) := hS;obtain ⟨m_4, hm_4⟩ : ∃ z_ : MS, z_ = (⟨m.made, m.shared, m.depth, m.deepest, m.trace, m.owners, m.calls, m.panics, m.recs, m.places⟩ : MS) := ⟨_, rfl⟩;replace hS : Sat w0 w ((mch bm pv fuel m_4) :: (FB bf f.id f.fn f.r0 f.r1 f.r2 f.r3 t (fpv) f.dfr f.cnt (f.lvg || d.lvg) 3 f.pan) :: (rQ t f.runs) :: (FB bd d.id d.fn d.r0 d.r1 d.r2 d.r3 t' (dpv) d.dfr d.cnt d.lvg d.en d.pan) :: (rQ t' d.runs) :: Rs) := by rw [hm_4]; exact Sat.shutM (⟨s.tr, s.ow, s.ca, s.pa, s.re, s.us, s.bp⟩ : MSl) (hs) hS
    refine end_none ha (by kernel_rfl) ⟨rfl, ?_⟩;have hE : m_4 = yK m f d := by rw [hm_4]; simp [yK, c7, c9, c10]
    have hF : (⟨f.id, f.fn, f.r0, f.r1, f.r2, f.r3, f.runs, f.dfr, f.cnt, (f.lvg || d.lvg), 3, f.pan⟩ : FS) = yZ f d := by simp [yZ, c7, c9, c10]
    rw [hE] at hS;have hG := Sat.shutF1 (f := (⟨f.id, f.fn, f.r0, f.r1, f.r2, f.r3, f.runs, f.dfr, f.cnt, (f.lvg || d.lvg), 3, f.pan⟩ : FS)) t hS;rw [hF] at hG;have hG2 := Sat.shutF (f := d) t' ((Sat.comm2 (l := [_, _]) (k := frmL bd d dpv t') hG));exact Sat.back (l := [_, _]) hG2
  refine jV ha rfl (decide_eq_false c9) ?_
  refine wp_seq (jX [0, 1, 2, 3, 4, 5, 6, 7, 8, 9, 10] (jQ [(0, 108, ptr bd 0), (1, 109, ptr bd 0), (2, 110, ptr bd 9)] ha fun a ha => ?_))
  refine jU (d := 111) (b := bd) (j := 9) ha (hS.blk 10 rfl) rfl fun a ha => ?_
  refine jQ [(4, 112, .bool d.cnt)] ha fun a ha => ?_
  rcases Bool.eq_false_or_eq_true d.cnt with c11 | c11
  ·
    replace ha := ha.turn 111 (.bool true) rfl (congrArg Value.bool c11);replace ha := ha.turn 112 (.bool true) rfl (congrArg Value.bool c11);refine jQ [(5, 113, ptr bf 0), (6, 114, ptr bf 0), (7, 115, ptr bf 10)] ha fun a ha => ?_;refine jU (d := 116) (b := bf) (j := 10) ha (hS.blk 8 rfl) rfl fun a ha => ?_;refine jQ [(9, 117, .bool (f.lvg || d.lvg)), (10, 107, .bool (f.lvg || d.lvg))] ha fun a ha => ?_;refine jY ?_;replace ha := ha.as [(1, ptr bf 0), (2, ptr bd 0), (107, .bool (f.lvg || d.lvg))] rfl;refine jJ ?_
    rcases Bool.eq_false_or_eq_true (f.lvg || d.lvg) with c12 | c12
    ·
      refine jG ha rfl c12 ?_;refine jX [0, 1, 2, 3] (jQ [(0, 118, ptr bf 0), (1, 119, ptr bf 0), (2, 120, ptr bf 11)] ha fun a ha => ?_);refine jZ (qH bf 11 (iv 3) 8 ha hS rfl rfl fun w a hS ha => ?_);refine jY (in_n ?_);replace hS : Sat w0 w ((MB bm pv fuel m.made m.shared m.depth m.deepest s.tr s.ow s.ca s.pa s.re s.bp) :: (rE s.tr m.trace) :: (rI s.ow m.owners) :: (rC s.ca m.calls) :: (rP s.pa s.us) :: (jW (yQ s.us)) :: (rV s.re m.recs) :: (yY s.bp m.places) :: (FB bf f.id f.fn f.r0 f.r1 f.r2 f.r3 t (fpv) f.dfr f.cnt (f.lvg || d.lvg) 3 f.pan) :: (rQ t f.runs) :: (FB bd d.id d.fn d.r0 d.r1 d.r2 d.r3 t' (dpv) d.dfr d.cnt d.lvg d.en d.pan) :: (rQ t' d.runs) :: Rs) := hS;obtain ⟨m_5, hm_5⟩ : ∃ z_ : MS, z_ = (⟨m.made, m.shared, m.depth, m.deepest, m.trace, m.owners, m.calls, m.panics, m.recs, m.places⟩ : MS) := ⟨_, rfl⟩;replace hS : Sat w0 w ((mch bm pv fuel m_5) :: (FB bf f.id f.fn f.r0 f.r1 f.r2 f.r3 t (fpv) f.dfr f.cnt (f.lvg || d.lvg) 3 f.pan) :: (rQ t f.runs) :: (FB bd d.id d.fn d.r0 d.r1 d.r2 d.r3 t' (dpv) d.dfr d.cnt d.lvg d.en d.pan) :: (rQ t' d.runs) :: Rs) := by rw [hm_5]; exact Sat.shutM (⟨s.tr, s.ow, s.ca, s.pa, s.re, s.us, s.bp⟩ : MSl) (hs) hS
      refine end_none ha (by kernel_rfl) ⟨rfl, ?_⟩;have hE : m_5 = yK m f d := by rw [hm_5]; simp [yK, c7, c9, c11, c12]
      have hF : (⟨f.id, f.fn, f.r0, f.r1, f.r2, f.r3, f.runs, f.dfr, f.cnt, (f.lvg || d.lvg), 3, f.pan⟩ : FS) = yZ f d := by simp [yZ, c7, c9, c11, c12]
      rw [hE] at hS;have hG := Sat.shutF1 (f := (⟨f.id, f.fn, f.r0, f.r1, f.r2, f.r3, f.runs, f.dfr, f.cnt, (f.lvg || d.lvg), 3, f.pan⟩ : FS)) t hS;rw [hF] at hG;have hG2 := Sat.shutF (f := d) t' ((Sat.comm2 (l := [_, _]) (k := frmL bd d dpv t') hG));exact Sat.back (l := [_, _]) hG2
    refine jV ha rfl c12 ?_;refine wp_seq (jX [0, 1, 2, 3, 4] (jQ [(0, 122, ptr bd 0), (1, 123, ptr bd 0), (2, 124, ptr bd 9)] ha fun a ha => ?_));refine jU (d := 125) (b := bd) (j := 9) ha (hS.blk 10 rfl) rfl fun a ha => ?_;refine jQ [(4, 121, .bool d.cnt)] ha fun a ha => ?_;refine jY (jJ ?_);refine jG ha rfl c11 ?_;refine jX [0, 1, 2, 3] (jQ [(0, 126, ptr bf 0), (1, 127, ptr bf 0), (2, 128, ptr bf 11)] ha fun a ha => ?_);refine jZ (qH bf 11 (iv 1) 8 ha hS rfl rfl fun w a hS ha => ?_);refine jY (in_n ?_);replace hS : Sat w0 w ((MB bm pv fuel m.made m.shared m.depth m.deepest s.tr s.ow s.ca s.pa s.re s.bp) :: (rE s.tr m.trace) :: (rI s.ow m.owners) :: (rC s.ca m.calls) :: (rP s.pa s.us) :: (jW (yQ s.us)) :: (rV s.re m.recs) :: (yY s.bp m.places) :: (FB bf f.id f.fn f.r0 f.r1 f.r2 f.r3 t (fpv) f.dfr f.cnt (f.lvg || d.lvg) 1 f.pan) :: (rQ t f.runs) :: (FB bd d.id d.fn d.r0 d.r1 d.r2 d.r3 t' (dpv) d.dfr d.cnt d.lvg d.en d.pan) :: (rQ t' d.runs) :: Rs) := hS;obtain ⟨m_6, hm_6⟩ : ∃ z_ : MS, z_ = (⟨m.made, m.shared, m.depth, m.deepest, m.trace, m.owners, m.calls, m.panics, m.recs, m.places⟩ : MS) := ⟨_, rfl⟩;replace hS : Sat w0 w ((mch bm pv fuel m_6) :: (FB bf f.id f.fn f.r0 f.r1 f.r2 f.r3 t (fpv) f.dfr f.cnt (f.lvg || d.lvg) 1 f.pan) :: (rQ t f.runs) :: (FB bd d.id d.fn d.r0 d.r1 d.r2 d.r3 t' (dpv) d.dfr d.cnt d.lvg d.en d.pan) :: (rQ t' d.runs) :: Rs) := by rw [hm_6]; exact Sat.shutM (⟨s.tr, s.ow, s.ca, s.pa, s.re, s.us, s.bp⟩ : MSl) (hs) hS
    refine end_none ha (by kernel_rfl) ⟨rfl, ?_⟩;have hE : m_6 = yK m f d := by rw [hm_6]; simp [yK, c7, c9, c11, c12]
    have hF : (⟨f.id, f.fn, f.r0, f.r1, f.r2, f.r3, f.runs, f.dfr, f.cnt, (f.lvg || d.lvg), 1, f.pan⟩ : FS) = yZ f d := by simp [yZ, c7, c9, c11, c12]
    rw [hE] at hS;have hG := Sat.shutF1 (f := (⟨f.id, f.fn, f.r0, f.r1, f.r2, f.r3, f.runs, f.dfr, f.cnt, (f.lvg || d.lvg), 1, f.pan⟩ : FS)) t hS;rw [hF] at hG;have hG2 := Sat.shutF (f := d) t' ((Sat.comm2 (l := [_, _]) (k := frmL bd d dpv t') hG));exact Sat.back (l := [_, _]) hG2
  replace ha := ha.turn 111 (.bool false) rfl (congrArg Value.bool c11)
  replace ha := ha.turn 112 (.bool false) rfl (congrArg Value.bool c11)
  refine jQ [(5, 113, undef), (6, 114, undef), (7, 115, undef), (8, 116, undef), (9, 117, .bool false), (10, 107, .bool false)] ha fun a ha => ?_
  refine jY ?_
  replace ha := ha.as [(1, ptr bf 0), (2, ptr bd 0), (107, .bool false)] rfl
  refine jJ ?_
  refine jV ha rfl rfl ?_
  refine wp_seq (jX [0, 1, 2, 3, 4] (jQ [(0, 122, ptr bd 0), (1, 123, ptr bd 0), (2, 124, ptr bd 9)] ha fun a ha => ?_))
  refine jU (d := 125) (b := bd) (j := 9) ha (hS.blk 10 rfl) rfl fun a ha => ?_
  refine jQ [(4, 121, .bool d.cnt)] ha fun a ha => ?_
  refine jY (jJ ?_)
  refine jV ha rfl c11 ?_
  refine wp_skip (in_n ?_)
  replace hS : Sat w0 w ((MB bm pv fuel m.made m.shared m.depth m.deepest s.tr s.ow s.ca s.pa s.re s.bp) :: (rE s.tr m.trace) :: (rI s.ow m.owners) :: (rC s.ca m.calls) :: (rP s.pa s.us) :: (jW (yQ s.us)) :: (rV s.re m.recs) :: (yY s.bp m.places) :: (FB bf f.id f.fn f.r0 f.r1 f.r2 f.r3 t (fpv) f.dfr f.cnt (f.lvg || d.lvg) f.en f.pan) :: (rQ t f.runs) :: (FB bd d.id d.fn d.r0 d.r1 d.r2 d.r3 t' (dpv) d.dfr d.cnt d.lvg d.en d.pan) :: (rQ t' d.runs) :: Rs) := hS
  obtain ⟨m_7, hm_7⟩ : ∃ z_ : MS, z_ = (⟨m.made, m.shared, m.depth, m.deepest, m.trace, m.owners, m.calls, m.panics, m.recs, m.places⟩ : MS) := ⟨_, rfl⟩
  replace hS : Sat w0 w ((mch bm pv fuel m_7) :: (FB bf f.id f.fn f.r0 f.r1 f.r2 f.r3 t (fpv) f.dfr f.cnt (f.lvg || d.lvg) f.en f.pan) :: (rQ t f.runs) :: (FB bd d.id d.fn d.r0 d.r1 d.r2 d.r3 t' (dpv) d.dfr d.cnt d.lvg d.en d.pan) :: (rQ t' d.runs) :: Rs) := by rw [hm_7]; exact Sat.shutM (⟨s.tr, s.ow, s.ca, s.pa, s.re, s.us, s.bp⟩ : MSl) (hs) hS
  refine end_none ha (by kernel_rfl) ⟨rfl, ?_⟩
  have hE : m_7 = yK m f d := by rw [hm_7]; simp [yK, c7, c9, c11]
  have hF : (⟨f.id, f.fn, f.r0, f.r1, f.r2, f.r3, f.runs, f.dfr, f.cnt, (f.lvg || d.lvg), f.en, f.pan⟩ : FS) = yZ f d := by simp [yZ, c7, c9, c11]
  rw [hE] at hS
  have hG := Sat.shutF1 (f := (⟨f.id, f.fn, f.r0, f.r1, f.r2, f.r3, f.runs, f.dfr, f.cnt, (f.lvg || d.lvg), f.en, f.pan⟩ : FS)) t hS
  rw [hF] at hG
  have hG2 := Sat.shutF (f := d) t' ((Sat.comm2 (l := [_, _]) (k := frmL bd d dpv t') hG))
  exact Sat.back (l := [_, _]) hG2
def spentC : List PanicEntry := [{ v := .iface 161 (.agg #[]), recovered := false }]
def callPost (w0 : World) (bm : Nat) (pv : Sl) (fuel : Int) (Rs : List Asn) (pvl qv : Value) (p : Option FS) (res : R3) : Ending → World → Prop
 | .returned v, w => ∃ m f o bd, res = .done m f o ∧ v = .pointer (some ⟨bd, 0, none⟩) ∧ Sat w0 w (mch bm pv fuel m :: frm bd f pvl :: qV pvl qv (qX p o) :: Rs)
 | .panicked c, w => ∃ m, res = .spent m ∧ c = spentC ∧ Sat w0 w (mch bm pv fuel m :: Rs)
 | .outgrown, _ => False
theorem OkP.r1 {m : MS} {p : Option FS} (h : OkP m p) (o : Int) : OkP m (qX p o) := by
 intro q hq he
 cases p with
 | none => cases hq
 | some q' =>
  simp only [qX, Option.map_some, Option.some.injEq] at hq
  subst hq
  exact h q' rfl he
def CallC (P : List (List Stp)) (fuel : Int) (bm : Nat) (pv : Sl) (sbs : List Sl) (d : Nat) : Prop :=
  ∀ (w0 w : World) (Rs : List Asn) (m : MS) (fn arg : Int) (pvl qv : Value) (p : Option FS) (o : Int) (dfr : Bool) (x : Nat),
    Sat w0 w (mch bm pv fuel m :: qV pvl qv (qX p o) :: Rs) → OkM fuel m (x + 2) → m.depth + d = 8 → 0 ≤ m.depth → 0 ≤ fn → fn < P.length → (dfr = true → p.isSome = true) → OkP m p → Keeps w0 Rs (fun w => RdProg w pv sbs P) →
    Calls Try.prog 95 #[.pointer (some ⟨bm, 0, none⟩), .int .i64 fn, .int .i64 arg, pvl, .bool dfr] w (callPost w0 bm pv fuel Rs pvl qv p (callS P fuel d m fn arg p o dfr))
def hJ (w0 : World) (bm bf : Nat) (pv : Sl) (fuel : Int) (Rs : List Asn) (fpv qv : Value) (p : Option FS) (res : RB) : Ending → World → Prop
 | .returned v, w => ∃ m f o e, res = .go m f o e ∧ v = .bool e ∧ Sat w0 w (mch bm pv fuel m :: frm bf f fpv :: qV fpv qv (qX p o) :: Rs)
 | .panicked c, w => ∃ m, res = .spent m ∧ c = spentC ∧ Sat w0 w (mch bm pv fuel m :: Rs)
 | .outgrown, _ => False
def bodyPost_ (w0 : World) (bm bf : Nat) (pv : Sl) (fuel : Int) (Rs : List Asn) (fpv qv : Value) (p : Option FS) (res : R3) : Ending → World → Prop
 | .returned v, w => ∃ m f o, res = .done m f o ∧ v = .tuple #[] ∧ Sat w0 w (mch bm pv fuel m :: frm bf f fpv :: qV fpv qv (qX p o) :: Rs)
 | .panicked c, w => ∃ m, res = .spent m ∧ c = spentC ∧ Sat w0 w (mch bm pv fuel m :: Rs)
 | .outgrown, _ => False
theorem Sat.nilRow {w0 w : World} {Rs : List Asn} {T sz : Nat} (h : Sat w0 w Rs) : Sat w0 w (SX.row (.slice none 0 0) T sz [] :: Rs) :=
 h.new _ rfl rfl rfl (Nat.le_refl _) (fun _ _ => rfl) ⟨fun _ => False, ⟨fun k => by simp [Value.ownBlock], 0, by simp, .inl ⟨rfl, rfl⟩⟩, fun _ h => h.elim⟩
theorem frame_ok {n : Nat} (m : MS) (fn arg up : Int) (dfr : Bool) (h0 : 0 ≤ fn) (h1 : fn < n) : OkF n (m.enter fn arg up dfr) (m.frame fn arg dfr) := by
 refine ⟨?_, ?_, h0, h1, .inl rfl, fun e => by simp [MS.frame] at e, fun z hz => by simp [MS.frame] at hz⟩
 · simp only [MS.frame]; omega
 · simp only [MS.frame, MS.enter, MS.tell, List.length_append, List.length_cons, List.length_nil]; omega
theorem body_steps {P : List (List Stp)} (hP : ProgOk P) {fn : Int} (h0 : 0 ≤ fn) (h1 : fn < P.length) : ∀ s ∈ P.getD fn.toNat [], StpOk P.length s := by
 have hlt : fn.toNat < P.length := by omega
 rw [List.getD_eq_getElem?_getD, List.getElem?_eq_getElem hlt]
 exact hP.steps _ (List.getElem_mem hlt)
theorem row_cap {w0 w : World} {Rs : List Asn} {A : Option Addr} {n c T sz : Nat} {xs : List Value} (h : Sat w0 w Rs) (i : Nat) (hi : Rs[i]? = some (SX.row (.slice A n c) T sz xs)) : n ≤ c := by
  obtain ⟨m, h1, h2⟩ := h.row i hi
  rcases h2 with ⟨e, h0⟩ | ⟨g, cap, cur, e, _, _, h3, _⟩
  · simp only [Value.slice.injEq] at e
    obtain ⟨rfl, rfl, rfl⟩ := e;exact Nat.le_refl _
  · simp only [Value.slice.injEq] at e
    obtain ⟨rfl, rfl, rfl⟩ := e;exact h3
def tailS (r : R3) : R3 := match r with
 | .spent m => .spent m
 | .done m f o => .done { finishS m f with depth := m.depth - 1 } f o
theorem callS_done {P : List (List Stp)} {fuel : Int} {d : Nat} {m : MS} {fn arg : Int} {p : Option FS} {o : Int} {dfr : Bool} {m3 : MS} {f3 : FS} {o3 : Int}
  (h : bodyS fuel (callS P fuel d) (P.getD fn.toNat []) p (fuel - m.made).toNat.succ (m.enter fn arg (parId p) dfr) (m.frame fn arg dfr) o 0 = .done m3 f3 o3) : callS P fuel (d + 1) m fn arg p o dfr = tailS (runsS (callS P fuel d) f3.runs.length m3 f3 p o3) := by
 simp only [callS, h]
 unfold tailS
 split <;> rename_i hh <;> rw [hh]
theorem callS_spent {P : List (List Stp)} {fuel : Int} {d : Nat} {m : MS} {fn arg : Int} {p : Option FS} {o : Int} {dfr : Bool} {m3 : MS}
  (h : bodyS fuel (callS P fuel d) (P.getD fn.toNat []) p (fuel - m.made).toNat.succ (m.enter fn arg (parId p) dfr) (m.frame fn arg dfr) o 0 = .spent m3) : callS P fuel (d + 1) m fn arg p o dfr = .spent m3 := by
 simp only [callS, h]
theorem recR1 (m : MS) (f : FS) (p : Option FS) (o r : Int) : zY m f (qX p o) r = zY m f p r := by cases p <;> rfl
theorem reg4 {a : Int} (h : 0 ≤ a ∧ a ≤ 3) : a = 0 ∨ a = 1 ∨ a = 2 ∨ a = 3 := by omega
theorem wrap_i16 (n : Int) : IntKind.i16.wrap n = (n + 32768) % 65536 - 32768 := by
 simp [IntKind.wrap, IntKind.bits, IntKind.signed]
 split <;> omega
theorem conv16 (x : Int) : IntKind.i64.wrap (IntKind.i16.wrap x) = IntKind.i16.wrap x := by rw [wrap_i16, IntKind.wrap_i64]; omega
theorem w16_w64 (x : Int) : IntKind.i16.wrap (IntKind.i64.wrap x) = w16 x := by unfold w16; rw [wrap_i16, wrap_i16, IntKind.wrap_i64]; omega
theorem code122 : Try.f122.body = some (Code.seq (cr Try.f122 0 false) (Code.seq (cr Try.f122 1 false) (Code.seq (Code.seq (cr Try.f122 2 false) (Code.block 0 (Code.seq (cr Try.f122 3 false) (Code.cond (Operand.tmp 13) (cr Try.f122 4 true) (Code.seq (cr Try.f122 5 false) (Code.cond (Operand.tmp 22) (cr Try.f122 6 true) (Code.seq (cr Try.f122 7 false) (Code.cond (Operand.tmp 45) (cr Try.f122 8 true) (Code.seq (cr Try.f122 9 false) (Code.cond (Operand.tmp 63) (Code.seq (cr Try.f122 10 true) (Code.seq (cr Try.f122 11 false) (Code.seq (Code.seq (cr Try.f122 12 false) (Code.cond (Operand.tmp 94) (Code.seq (cr Try.f122 13 true) (Code.seq (cr Try.f122 14 false) Code.ret)) Code.skip)) (Code.seq (cr Try.f122 15 true) (Code.seq (cr Try.f122 16 false) Code.ret))))) (Code.seq (cr Try.f122 17 false) (Code.cond (Operand.tmp 118) (Code.seq (cr Try.f122 18 true) (cr Try.f122 19 true)) (Code.seq (cr Try.f122 20 false) (Code.cond (Operand.tmp 154) (Code.seq (cr Try.f122 21 false) (Code.seq (cr Try.f122 22 true) (Code.seq (cr Try.f122 23 true) (Code.seq (cr Try.f122 24 false) Code.ret)))) (Code.seq (cr Try.f122 25 false) (Code.cond (Operand.tmp 215) (cr Try.f122 26 false) (Code.seq (cr Try.f122 27 false) (Code.cond (Operand.tmp 221) (Code.seq (cr Try.f122 28 true) (Code.seq (cr Try.f122 29 false) Code.ret)) (Code.seq (cr Try.f122 30 false) (Code.cond (Operand.tmp 233) (Code.seq (cr Try.f122 31 false) (Code.cond (Operand.tmp 238) (cr Try.f122 32 true) Code.skip)) (Code.seq (cr Try.f122 33 false) (Code.cond (Operand.tmp 252) (Code.seq (cr Try.f122 34 false) (Code.seq (cr Try.f122 35 false) Code.ret)) (Code.seq (cr Try.f122 36 false) (Code.cond (Operand.tmp 260) (cr Try.f122 37 false) (Code.seq (cr Try.f122 38 false) (Code.cond (Operand.tmp 271) (cr Try.f122 39 true) Code.skip)))))))))))))))))))))))))) (Code.seq (cr Try.f122 40 false) Code.ret)))) := by kernel_rfl
theorem step_calls (P : List (List Stp)) (hP : ProgOk P) (d : Nat) (fuel : Int) (bm : Nat) (pv : Sl) (sbs : List Sl) (IH : CallC P fuel bm pv sbs d) (w0 w : World) (Rs : List Asn) (bf : Nat) (m : MS) (f : FS) (fpv qv : Value) (p : Option FS) (o : Int) (z : Stp) (x : Nat) (hS : Sat w0 w (mch bm pv fuel m :: frm bf f fpv :: qV fpv qv (qX p o) :: Rs)) (hm : OkM fuel m (2 * f.runs.length + x + 3)) (hf : OkF P.length m f) (hs_ : StpOk P.length z) (hdep : m.depth + d = 8) (hd0 : 0 ≤ m.depth) (hdp : f.dfr = true → p.isSome = true) (hp : OkP m p) (hPr : Keeps w0 Rs (fun w => RdProg w pv sbs P)) :
  Calls Try.prog 122 #[.pointer (some ⟨bm, 0, none⟩), .pointer (some ⟨bf, 0, none⟩), .agg #[.int .i64 z.k, .int .i64 z.a, .int .i64 z.b]] w (hJ w0 bm bf pv fuel Rs fpv qv p (stepS (callS P fuel d) m f p o z)) := by
 obtain ⟨s, t, hs, hS⟩ := hS.openMF
 replace hS : Sat w0 w ((MB bm pv fuel m.made m.shared m.depth m.deepest s.tr s.ow s.ca s.pa s.re s.bp) :: (rE s.tr m.trace) :: (rI s.ow m.owners) :: (rC s.ca m.calls) :: (rP s.pa s.us) :: (jW (yQ s.us)) :: (rV s.re m.recs) :: (yY s.bp m.places) :: (FB bf f.id f.fn f.r0 f.r1 f.r2 f.r3 t (fpv) f.dfr f.cnt f.lvg f.en f.pan) :: (rQ t f.runs) :: (qV fpv qv (qX p o)) :: Rs) := hS
 have hbd := hm.bnd
 have hbo := hm.own
 have hb1 := hm.made1
 have hbp := hm.pans
 have hlen : f.runs.length ≤ 1000 ∧ m.panics.length ≤ 1000 ∧ s.us.length ≤ 1000 := by have h9 : s.us.length = m.panics.length := (by rw [← hs, List.length_map]); omega
 have hpn : s.pa.n = m.panics.length := by rw [hS.rowL (s := s.pa) (enc := cellsP) 4 xK (by decide) rfl, ← hs, List.length_map]
 refine enter (n := 282) Try.func122 code122 (by kernel_rfl) (Nat.le_of_ble_eq_true rfl) (fun a ha => ?_)
 replace ha : Has 282 [(0, ptr bm 0), (1, ptr bf 0), (2, .agg #[iv z.k, iv z.a, iv z.b])] a := ha
 refine wp_seq (jX [0, 1] (jZ (qJ 5 [iv z.k, iv z.a, iv z.b] 98 (ptr · 0) ha hS fun b1 w a hb2 hS ha => ?_)))
 refine jQ [(1, 6, .bool false)] ha fun a ha => ?_
 refine jY (jJ (wp_seq (jX [0, 1, 2] (jQ [(0, 9, ptr b1 1)] ha fun a ha => ?_))))
 refine jU (d := 10) (b := b1) (j := 1) ha (hS.blk 0 rfl) rfl fun a ha => ?_
 refine jQ [(2, 7, iv z.a)] ha fun a ha => ?_
 refine jY (jJ (wp_seq (wp_seq (jX [0, 1] (jQ [(0, 11, ptr b1 0)] ha fun a ha => ?_)))))
 refine jU (d := 12) (b := b1) (j := 0) ha (hS.blk 0 rfl) rfl fun a ha => ?_
 refine jY (jJ (wp_block (wp_seq (jX [0, 1] (jQ [(0, 14, .bool (decide (z.k = 1))), (1, 13, .bool (decide (z.k = 1)))] ha fun a ha => ?_)))))
 refine jY (jJ ?_)
 by_cases c3 : z.k = 1
 ·
  refine jG ha rfl (decide_eq_true c3) ?_
  refine xH 7 8 hS fun w hS => ?_
  refine jK (k := 5) [(0, 15, ptr bf 0), (1, 16, iv z.a), (2, 17, ptr b1 2)] ha (.inr hS) fun a ha => ?_
  refine qW 3 (d := 18) (b := b1) (j := 2) ha hS (fun _ hw => hw.blk 0 rfl) rfl fun a ha => ?_
  refine jK (k := 2) [(4, 19, ptr bf 0), (5, 20, ptr bf 2)] ha (.inr hS) fun a ha => ?_
  refine zQ 6 (.pointer (some ⟨bf, 2 + (z.a : Int).toNat * 1, none⟩)) ha (yV (len := 4) (el := 3) (sz := 1) ha (yU (t := 122) (x := 20) (y := 16) (d := 21)) rfl rfl (by kernel_rfl) (by kernel_rfl) (by have := (reg4 (hs_.a (by omega) (by omega) (by omega) (by omega))); omega) (by have := (reg4 (hs_.a (by omega) (by omega) (by omega) (by omega))); omega)) (.inr hS) fun a ha => ?_
  refine jH 7 (o_store (cs' := [iv f.id, iv f.fn, iv (u4 f.r0 z.b 0 z.a), iv (u4 f.r1 z.b 1 z.a), iv (u4 f.r2 z.b 2 z.a), iv (u4 f.r3 z.b 3 z.a), .slice t.A t.n t.c, fpv, .bool f.dfr, .bool f.cnt, .bool f.lvg, iv f.en, iv f.pan]) 9 ha (qU (t := 3) (x := 21) (y := 18)) rfl rfl rfl (by kernel_rfl) hS rfl (by have := (reg4 (hs_.a (by omega) (by omega) (by omega) (by omega))); simp; omega) (by rcases (reg4 (hs_.a (by omega) (by omega) (by omega) (by omega))) with h | h | h | h <;> simp [h, u4]) (fun w a hS ha => ?_))
  refine xJ (xX ?_)
  replace ha := ha.as [(6, .bool false)] rfl
  refine in_n (jJ (wp_seq (jX [0] (jQ [(0, 6, .bool false)] ha fun a ha => ?_))))
  refine jY (jJ (wp_ret ?_))
  refine end_tmp (t := 6) (v := .bool false) ha (by kernel_rfl) rfl ?_
  replace hS := hS.pickN 12 [1, 2, 3, 4, 5, 6, 7, 8, 0, 9, 10, 11]
  obtain ⟨m_1, hm_1⟩ : ∃ z_ : MS, z_ = (⟨m.made, m.shared, m.depth, m.deepest, m.trace, m.owners, m.calls, m.panics, m.recs, m.places⟩ : MS) := ⟨_, rfl⟩
  replace hS : Sat w0 w ((mch bm pv fuel m_1) :: (SX.blk b1 [iv z.k, iv z.a, iv z.b] 98) :: (FB bf f.id f.fn (u4 f.r0 z.b 0 z.a) (u4 f.r1 z.b 1 z.a) (u4 f.r2 z.b 2 z.a) (u4 f.r3 z.b 3 z.a) t (fpv) f.dfr f.cnt f.lvg f.en f.pan) :: (rQ t f.runs) :: (qV fpv qv (qX p o)) :: Rs) := by rw [hm_1]; exact Sat.shutM (⟨s.tr, s.ow, s.ca, s.pa, s.re, s.us, s.bp⟩ : MSl) (hs) hS
  replace hS := hS.pickN 5 [2, 3, 0, 1, 4]
  obtain ⟨f_1, hf_1⟩ : ∃ z_ : FS, z_ = (⟨f.id, f.fn, (u4 f.r0 z.b 0 z.a), (u4 f.r1 z.b 1 z.a), (u4 f.r2 z.b 2 z.a), (u4 f.r3 z.b 3 z.a), f.runs, f.dfr, f.cnt, f.lvg, f.en, f.pan⟩ : FS) := ⟨_, rfl⟩
  replace hS : Sat w0 w ((frm bf f_1 (fpv)) :: (mch bm pv fuel m_1) :: (SX.blk b1 [iv z.k, iv z.a, iv z.b] 98) :: (qV fpv qv (qX p o)) :: Rs) := by rw [hf_1]; exact Sat.shutF t hS
  replace hS := hS.pickN 4 [1, 0, 3]
  refine ⟨m_1, f_1, o, false, ?_, rfl, hS⟩
  rw [hf_1, hm_1]; simp [stepS, FS.get, FS.set, c3]
 refine jV ha rfl (decide_eq_false c3) ?_
 refine wp_seq (jX [0, 1] (jQ [(0, 23, .bool (decide (z.k = 2))), (1, 22, .bool (decide (z.k = 2)))] ha fun a ha => ?_))
 refine jY (jJ ?_)
 by_cases c4 : z.k = 2
 ·
  refine jG ha rfl (decide_eq_true c4) ?_
  refine xH 21 22 hS fun w hS => ?_
  refine jK (k := 16) [(0, 24, ptr bf 0), (1, 25, iv z.a), (2, 26, ptr bf 0), (3, 27, iv z.a), (4, 28, ptr bf 0), (5, 29, ptr bf 2)] ha (.inr hS) fun a ha => ?_
  refine zQ 6 (.pointer (some ⟨bf, 2 + (z.a : Int).toNat * 1, none⟩)) ha (yV (len := 4) (el := 3) (sz := 1) ha (yU (t := 122) (x := 29) (y := 27) (d := 30)) rfl rfl (by kernel_rfl) (by kernel_rfl) (by have := (reg4 (hs_.a (by omega) (by omega) (by omega) (by omega))); omega) (by have := (reg4 (hs_.a (by omega) (by omega) (by omega) (by omega))); omega)) (.inr hS) fun a ha => ?_
  refine zH 7 (iv (g4 f.r0 f.r1 f.r2 f.r3 z.a)) ha (v_load (cs := [iv f.id, iv f.fn, iv f.r0, iv f.r1, iv f.r2, iv f.r3, .slice t.A t.n t.c, fpv, .bool f.dfr, .bool f.cnt, .bool f.lvg, iv f.en, iv f.pan]) (T := 143) ha (zV (t := 3) (x := 30) (d := 31) (ty := 3)) rfl (by kernel_rfl) (fun _ hw => hw.blk 9 rfl) (by rcases (reg4 (hs_.a (by omega) (by omega) (by omega) (by omega))) with h | h | h | h <;> simp [h, g4])) hS fun a ha => ?_
  refine jK (k := 12) [(8, 32, ptr bf 0), (9, 33, ptr b1 2)] ha (.inr hS) fun a ha => ?_
  refine qW 10 (d := 34) (b := b1) (j := 2) ha hS (fun _ hw => hw.blk 0 rfl) rfl fun a ha => ?_
  refine jK (k := 9) [(11, 35, ptr bf 0), (12, 36, ptr bf 2)] ha (.inr hS) fun a ha => ?_
  refine zQ 13 (.pointer (some ⟨bf, 2 + (z.b : Int).toNat * 1, none⟩)) ha (yV (len := 4) (el := 3) (sz := 1) ha (yU (t := 122) (x := 36) (y := 34) (d := 37)) rfl rfl (by kernel_rfl) (by kernel_rfl) (by have := (reg4 (hs_.b (by omega))); omega) (by have := (reg4 (hs_.b (by omega))); omega)) (.inr hS) fun a ha => ?_
  refine zH 14 (iv (g4 f.r0 f.r1 f.r2 f.r3 z.b)) ha (v_load (cs := [iv f.id, iv f.fn, iv f.r0, iv f.r1, iv f.r2, iv f.r3, .slice t.A t.n t.c, fpv, .bool f.dfr, .bool f.cnt, .bool f.lvg, iv f.en, iv f.pan]) (T := 143) ha (zV (t := 3) (x := 37) (d := 38) (ty := 3)) rfl (by kernel_rfl) (fun _ hw => hw.blk 9 rfl) (by rcases (reg4 (hs_.b (by omega))) with h | h | h | h <;> simp [h, g4])) hS fun a ha => ?_
  refine jK (k := 5) [(15, 39, iv (IntKind.i64.wrap ((g4 f.r0 f.r1 f.r2 f.r3 z.a) + (g4 f.r0 f.r1 f.r2 f.r3 z.b)))), (16, 40, .int .i16 (IntKind.i16.wrap (IntKind.i64.wrap ((g4 f.r0 f.r1 f.r2 f.r3 z.a) + (g4 f.r0 f.r1 f.r2 f.r3 z.b)))))] ha (.inr hS) fun a ha => ?_
  refine zQ 17 (iv (IntKind.i16.wrap (IntKind.i64.wrap ((g4 f.r0 f.r1 f.r2 f.r3 z.a) + (g4 f.r0 f.r1 f.r2 f.r3 z.b))))) ha ((qZ (v := .int .i64 (IntKind.i64.wrap (IntKind.i16.wrap (IntKind.i64.wrap ((g4 f.r0 f.r1 f.r2 f.r3 z.a) + (g4 f.r0 f.r1 f.r2 f.r3 z.b)))))) ha (zW (op := (Op.convert 197 3 (Operand.tmp 40))) (d := some 41) (ty := 3)) (by kernel_rfl) (fun _ => by kernel_rfl)).as (by rw [conv16])) (.inr hS) fun a ha => ?_
  refine jK (k := 2) [(18, 42, ptr bf 0), (19, 43, ptr bf 2)] ha (.inr hS) fun a ha => ?_
  refine zQ 20 (.pointer (some ⟨bf, 2 + (z.a : Int).toNat * 1, none⟩)) ha (yV (len := 4) (el := 3) (sz := 1) ha (yU (t := 122) (x := 43) (y := 25) (d := 44)) rfl rfl (by kernel_rfl) (by kernel_rfl) (by have := (reg4 (hs_.a (by omega) (by omega) (by omega) (by omega))); omega) (by have := (reg4 (hs_.a (by omega) (by omega) (by omega) (by omega))); omega)) (.inr hS) fun a ha => ?_
  refine jH 21 (o_store (cs' := [iv f.id, iv f.fn, iv (u4 f.r0 (IntKind.i16.wrap (IntKind.i64.wrap ((g4 f.r0 f.r1 f.r2 f.r3 z.a) + (g4 f.r0 f.r1 f.r2 f.r3 z.b)))) 0 z.a), iv (u4 f.r1 (IntKind.i16.wrap (IntKind.i64.wrap ((g4 f.r0 f.r1 f.r2 f.r3 z.a) + (g4 f.r0 f.r1 f.r2 f.r3 z.b)))) 1 z.a), iv (u4 f.r2 (IntKind.i16.wrap (IntKind.i64.wrap ((g4 f.r0 f.r1 f.r2 f.r3 z.a) + (g4 f.r0 f.r1 f.r2 f.r3 z.b)))) 2 z.a), iv (u4 f.r3 (IntKind.i16.wrap (IntKind.i64.wrap ((g4 f.r0 f.r1 f.r2 f.r3 z.a) + (g4 f.r0 f.r1 f.r2 f.r3 z.b)))) 3 z.a), .slice t.A t.n t.c, fpv, .bool f.dfr, .bool f.cnt, .bool f.lvg, iv f.en, iv f.pan]) 9 ha (qU (t := 3) (x := 44) (y := 41)) rfl rfl rfl (by kernel_rfl) hS rfl (by have := (reg4 (hs_.a (by omega) (by omega) (by omega) (by omega))); simp; omega) (by rcases (reg4 (hs_.a (by omega) (by omega) (by omega) (by omega))) with h | h | h | h <;> simp [h, u4]) (fun w a hS ha => ?_))
  refine xJ (xX ?_)
  replace ha := ha.as [(6, .bool false)] rfl
  refine in_n (jJ (wp_seq (jX [0] (jQ [(0, 6, .bool false)] ha fun a ha => ?_))))
  refine jY (jJ (wp_ret ?_))
  refine end_tmp (t := 6) (v := .bool false) ha (by kernel_rfl) rfl ?_
  replace hS := hS.pickN 12 [1, 2, 3, 4, 5, 6, 7, 8, 0, 9, 10, 11]
  obtain ⟨m_2, hm_2⟩ : ∃ z_ : MS, z_ = (⟨m.made, m.shared, m.depth, m.deepest, m.trace, m.owners, m.calls, m.panics, m.recs, m.places⟩ : MS) := ⟨_, rfl⟩
  replace hS : Sat w0 w ((mch bm pv fuel m_2) :: (SX.blk b1 [iv z.k, iv z.a, iv z.b] 98) :: (FB bf f.id f.fn (u4 f.r0 (IntKind.i16.wrap (IntKind.i64.wrap ((g4 f.r0 f.r1 f.r2 f.r3 z.a) + (g4 f.r0 f.r1 f.r2 f.r3 z.b)))) 0 z.a) (u4 f.r1 (IntKind.i16.wrap (IntKind.i64.wrap ((g4 f.r0 f.r1 f.r2 f.r3 z.a) + (g4 f.r0 f.r1 f.r2 f.r3 z.b)))) 1 z.a) (u4 f.r2 (IntKind.i16.wrap (IntKind.i64.wrap ((g4 f.r0 f.r1 f.r2 f.r3 z.a) + (g4 f.r0 f.r1 f.r2 f.r3 z.b)))) 2 z.a) (u4 f.r3 (IntKind.i16.wrap (IntKind.i64.wrap ((g4 f.r0 f.r1 f.r2 f.r3 z.a) + (g4 f.r0 f.r1 f.r2 f.r3 z.b)))) 3 z.a) t (fpv) f.dfr f.cnt f.lvg f.en f.pan) :: (rQ t f.runs) :: (qV fpv qv (qX p o)) :: Rs) := by rw [hm_2]; exact Sat.shutM (⟨s.tr, s.ow, s.ca, s.pa, s.re, s.us, s.bp⟩ : MSl) (hs) hS
  replace hS := hS.pickN 5 [2, 3, 0, 1, 4]
  obtain ⟨f_2, hf_2⟩ : ∃ z_ : FS, z_ = (⟨f.id, f.fn, (u4 f.r0 (IntKind.i16.wrap (IntKind.i64.wrap ((g4 f.r0 f.r1 f.r2 f.r3 z.a) + (g4 f.r0 f.r1 f.r2 f.r3 z.b)))) 0 z.a), (u4 f.r1 (IntKind.i16.wrap (IntKind.i64.wrap ((g4 f.r0 f.r1 f.r2 f.r3 z.a) + (g4 f.r0 f.r1 f.r2 f.r3 z.b)))) 1 z.a), (u4 f.r2 (IntKind.i16.wrap (IntKind.i64.wrap ((g4 f.r0 f.r1 f.r2 f.r3 z.a) + (g4 f.r0 f.r1 f.r2 f.r3 z.b)))) 2 z.a), (u4 f.r3 (IntKind.i16.wrap (IntKind.i64.wrap ((g4 f.r0 f.r1 f.r2 f.r3 z.a) + (g4 f.r0 f.r1 f.r2 f.r3 z.b)))) 3 z.a), f.runs, f.dfr, f.cnt, f.lvg, f.en, f.pan⟩ : FS) := ⟨_, rfl⟩
  replace hS : Sat w0 w ((frm bf f_2 (fpv)) :: (mch bm pv fuel m_2) :: (SX.blk b1 [iv z.k, iv z.a, iv z.b] 98) :: (qV fpv qv (qX p o)) :: Rs) := by rw [hf_2]; exact Sat.shutF t hS
  replace hS := hS.pickN 4 [1, 0, 3]
  refine ⟨m_2, f_2, o, false, ?_, rfl, hS⟩
  rw [hf_2, hm_2]; simp [stepS, FS.get, FS.set, w16_w64, c4]
 refine jV ha rfl (decide_eq_false c4) ?_
 refine wp_seq (jX [0, 1] (jQ [(0, 46, .bool (decide (z.k = 3))), (1, 45, .bool (decide (z.k = 3)))] ha fun a ha => ?_))
 refine jY (jJ ?_)
 by_cases c5 : z.k = 3
 ·
  refine jG ha rfl (decide_eq_true c5) ?_
  refine xH 15 16 hS fun w hS => ?_
  refine jK (k := 12) [(0, 47, ptr bm 0), (1, 48, ptr bf 0), (2, 49, ptr bf 0), (3, 50, ptr bf 1)] ha (.inr hS) fun a ha => ?_
  refine qW 4 (d := 51) (b := bf) (j := 1) ha hS (fun _ hw => hw.blk 9 rfl) rfl fun a ha => ?_
  refine jK (k := 7) [(5, 52, ptr bf 0), (6, 53, iv z.a), (7, 54, ptr bf 0), (8, 55, ptr bf 2)] ha (.inr hS) fun a ha => ?_
  refine zQ 9 (.pointer (some ⟨bf, 2 + (z.a : Int).toNat * 1, none⟩)) ha (yV (len := 4) (el := 3) (sz := 1) ha (yU (t := 122) (x := 55) (y := 53) (d := 56)) rfl rfl (by kernel_rfl) (by kernel_rfl) (by have := (reg4 (hs_.a (by omega) (by omega) (by omega) (by omega))); omega) (by have := (reg4 (hs_.a (by omega) (by omega) (by omega) (by omega))); omega)) (.inr hS) fun a ha => ?_
  refine zH 10 (iv (g4 f.r0 f.r1 f.r2 f.r3 z.a)) ha (v_load (cs := [iv f.id, iv f.fn, iv f.r0, iv f.r1, iv f.r2, iv f.r3, .slice t.A t.n t.c, fpv, .bool f.dfr, .bool f.cnt, .bool f.lvg, iv f.en, iv f.pan]) (T := 143) ha (zV (t := 3) (x := 56) (d := 57) (ty := 3)) rfl (by kernel_rfl) (fun _ hw => hw.blk 9 rfl) (by rcases (reg4 (hs_.a (by omega) (by omega) (by omega) (by omega))) with h | h | h | h <;> simp [h, g4])) hS fun a ha => ?_
  refine jK (k := 2) [(11, 58, ptr bf 0), (12, 59, ptr bf 0), (13, 60, ptr bf 0)] ha (.inr hS) fun a ha => ?_
  refine qW 14 (d := 61) (b := bf) (j := 0) ha hS (fun _ hw => hw.blk 9 rfl) rfl fun a ha => ?_
  replace hS := hS.pickN 12 [1, 2, 3, 4, 5, 6, 7, 8, 0, 9, 10, 11]
  obtain ⟨m_3, hm_3⟩ : ∃ z_ : MS, z_ = (⟨m.made, m.shared, m.depth, m.deepest, m.trace, m.owners, m.calls, m.panics, m.recs, m.places⟩ : MS) := ⟨_, rfl⟩
  replace hS : Sat w0 w ((mch bm pv fuel m_3) :: (SX.blk b1 [iv z.k, iv z.a, iv z.b] 98) :: (FB bf f.id f.fn f.r0 f.r1 f.r2 f.r3 t (fpv) f.dfr f.cnt f.lvg f.en f.pan) :: (rQ t f.runs) :: (qV fpv qv (qX p o)) :: Rs) := by rw [hm_3]; exact Sat.shutM (⟨s.tr, s.ow, s.ca, s.pa, s.re, s.us, s.bp⟩ : MSl) (hs) hS
  refine jH 15 (qG 62 (vs := [ptr bm 0, iv 4, iv f.fn, iv (g4 f.r0 f.r1 f.r2 f.r3 z.a), iv f.id]) ha (tell_calls w0 w _ bm pv fuel m_3 4 f.fn (g4 f.r0 f.r1 f.r2 f.r3 z.a) f.id hS (by rw [hm_3]; simp only []; omega)) fun v6 w a hp7 ha => ?_)
  obtain ⟨rfl, hS⟩ := hp7
  refine xJ (xX ?_)
  replace ha := ha.as [(6, .bool false)] rfl
  refine in_n (jJ (wp_seq (jX [0] (jQ [(0, 6, .bool false)] ha fun a ha => ?_))))
  refine jY (jJ (wp_ret ?_))
  refine end_tmp (t := 6) (v := .bool false) ha (by kernel_rfl) rfl ?_
  replace hS := hS.pickN 5 [2, 3, 0, 1, 4]
  obtain ⟨f_3, hf_3⟩ : ∃ z_ : FS, z_ = (⟨f.id, f.fn, f.r0, f.r1, f.r2, f.r3, f.runs, f.dfr, f.cnt, f.lvg, f.en, f.pan⟩ : FS) := ⟨_, rfl⟩
  replace hS : Sat w0 w ((frm bf f_3 (fpv)) :: (mch bm pv fuel (m_3.tell 4 f.fn (g4 f.r0 f.r1 f.r2 f.r3 z.a) f.id)) :: (SX.blk b1 [iv z.k, iv z.a, iv z.b] 98) :: (qV fpv qv (qX p o)) :: Rs) := by rw [hf_3]; exact Sat.shutF t hS
  replace hf_3 : f_3 = f := hf_3
  replace hS := hS.pickN 4 [1, 0, 3]
  refine ⟨(m_3.tell 4 f.fn (g4 f.r0 f.r1 f.r2 f.r3 z.a) f.id), f_3, o, false, ?_, rfl, hS⟩
  rw [hf_3, hm_3]; simp [stepS, FS.get, FS.set, c5]
 refine jV ha rfl (decide_eq_false c5) ?_
 refine wp_seq (jX [0, 1] (jQ [(0, 64, .bool (decide (z.k = 4))), (1, 63, .bool (decide (z.k = 4)))] ha fun a ha => ?_))
 refine jY (jJ ?_)
 by_cases c8 : z.k = 4
 ·
  refine jG ha rfl (decide_eq_true c8) ?_
  refine wp_seq (xH 11 13 hS fun w hS => ?_)
  refine jK (k := 11) [(0, 65, ptr bm 0), (1, 66, ptr b1 1)] ha (.inr hS) fun a ha => ?_
  refine qW 2 (d := 67) (b := b1) (j := 1) ha hS (fun _ hw => hw.blk 0 rfl) rfl fun a ha => ?_
  refine jK (k := 8) [(3, 68, ptr bf 0), (4, 69, ptr b1 2)] ha (.inr hS) fun a ha => ?_
  refine d_ldN 5 (d := 70) (b := b1) (j := 2) ha hS (fun _ hw => hw.blk 0 rfl) rfl fun a ha => ?_
  refine jK (k := 5) [(6, 71, ptr bf 0), (7, 72, ptr bf 2)] ha (.inr hS) fun a ha => ?_
  refine zQ 8 (.pointer (some ⟨bf, 2 + (z.b : Int).toNat * 1, none⟩)) ha (yV (len := 4) (el := 3) (sz := 1) ha (yU (t := 122) (x := 72) (y := 70) (d := 73)) rfl rfl (by kernel_rfl) (by kernel_rfl) (by have := (reg4 (hs_.b (by omega))); omega) (by have := (reg4 (hs_.b (by omega))); omega)) (.inr hS) fun a ha => ?_
  refine zH 9 (iv (g4 f.r0 f.r1 f.r2 f.r3 z.b)) ha (v_load (cs := [iv f.id, iv f.fn, iv f.r0, iv f.r1, iv f.r2, iv f.r3, .slice t.A t.n t.c, fpv, .bool f.dfr, .bool f.cnt, .bool f.lvg, iv f.en, iv f.pan]) (T := 143) ha (zV (t := 3) (x := 73) (d := 74) (ty := 3)) rfl (by kernel_rfl) (fun _ hw => hw.blk 9 rfl) (by rcases (reg4 (hs_.b (by omega))) with h | h | h | h <;> simp [h, g4])) hS fun a ha => ?_
  refine jK (k := 2) [(10, 75, ptr bf 0)] ha (.inr hS) fun a ha => ?_
  replace hS := hS.pickN 12 [1, 2, 3, 4, 5, 6, 7, 8, 0, 9, 10, 11]
  obtain ⟨m_4, hm_4⟩ : ∃ z_ : MS, z_ = (⟨m.made, m.shared, m.depth, m.deepest, m.trace, m.owners, m.calls, m.panics, m.recs, m.places⟩ : MS) := ⟨_, rfl⟩
  replace hS : Sat w0 w ((mch bm pv fuel m_4) :: (SX.blk b1 [iv z.k, iv z.a, iv z.b] 98) :: (FB bf f.id f.fn f.r0 f.r1 f.r2 f.r3 t (fpv) f.dfr f.cnt f.lvg f.en f.pan) :: (rQ t f.runs) :: (qV fpv qv (qX p o)) :: Rs) := by rw [hm_4]; exact Sat.shutM (⟨s.tr, s.ow, s.ca, s.pa, s.re, s.us, s.bp⟩ : MSl) (hs) hS
  replace hS := hS.pickN 5 [2, 3, 0, 1, 4]
  obtain ⟨f_4, hf_4⟩ : ∃ z_ : FS, z_ = (⟨f.id, f.fn, f.r0, f.r1, f.r2, f.r3, f.runs, f.dfr, f.cnt, f.lvg, f.en, f.pan⟩ : FS) := ⟨_, rfl⟩
  replace hS : Sat w0 w ((frm bf f_4 (fpv)) :: (mch bm pv fuel m_4) :: (SX.blk b1 [iv z.k, iv z.a, iv z.b] 98) :: (qV fpv qv (qX p o)) :: Rs) := by rw [hf_4]; exact Sat.shutF t hS
  have e1 : m_4 = m := hm_4
  have e2 : f_4 = f := hf_4
  replace hS : Sat w0 w ((frm bf f fpv) :: (mch bm pv fuel m) :: (SX.blk b1 [iv z.k, iv z.a, iv z.b] 98) :: (qV fpv qv (qX p o)) :: Rs) := by rw [e1, e2] at hS; exact hS
  replace hS : Sat w0 w ((qV (.pointer (some ⟨bf, 0, none⟩)) fpv (qX (some f) f.r1)) :: (mch bm pv fuel m) :: (SX.blk b1 [iv z.k, iv z.a, iv z.b] 98) :: (qV fpv qv (qX p o)) :: Rs) := Sat.shutPar hS
  replace hS := hS.pickN 4 [1, 0, 2, 3]
  have hfb := hs_.f (.inl c8)
  refine jH 11 (o_call (Post := callPost w0 bm pv fuel ((SX.blk b1 [iv z.k, iv z.a, iv z.b] 98) :: (qV fpv qv (qX p o)) :: Rs) (.pointer (some ⟨bf, 0, none⟩)) fpv (some f) (callS P fuel d m z.a (g4 f.r0 f.r1 f.r2 f.r3 z.b) (some f) f.r1 false)) ha (by decide) (zW (op := (Op.call { callee := (Callee.value (Operand.func 95)), args := #[(Operand.tmp 65), (Operand.tmp 67), (Operand.tmp 74), (Operand.tmp 75), (Operand.const (Value.bool false))], argTypes := #[83, 3, 3, 139, 4] })) (d := some 76) (ty := 139)) rfl Try.func95 (by kernel_rfl) (IH w0 w _ m z.a (g4 f.r0 f.r1 f.r2 f.r3 z.b) _ _ (some f) f.r1 false (2 * f.runs.length + x) hS (hm.less (by omega)) hdep hd0 hfb.1 hfb.2 (fun h => by cases h) (fun q hq => by cases hq; exact hf.pan) (hPr.more [_, _])) (fun v10 w a hp9 ha => ?_) (fun c_ w hp9 => then_p (in_p (then_p (?_)))) (fun _ hp_ => hp_))
  rotate_left
  ·
   obtain ⟨m1, hres, rfl, hS9⟩ := hp9;refine ⟨ha.defers, m1, by simp [stepS, c8, FS.get, hres], rfl, ?_⟩;exact hS9.pickR (l := [_, SX.blk b1 [iv z.k, iv z.a, iv z.b] 98, qV fpv qv (qX p o)]) [0] (by decide) [_] rfl
  obtain ⟨m1, dd, o1, bd, hres, rfl, hS⟩ := hp9
  obtain ⟨bf', hbf, hS⟩ := Sat.openPar (q := { f with r1 := o1 }) (Sat.front (l := [_, _]) hS)
  have hbf2 : bf' = bf := by simpa using hbf.symm
  rw [hbf2] at hS
  obtain ⟨t1, hS⟩ := hS.openF
  obtain ⟨t2, hS⟩ := Sat.openF1 (Sat.comm2 (k := [_, _]) hS)
  obtain ⟨hok1, hok2, hok3⟩ := callS_ok hP fuel d m z.a (g4 f.r0 f.r1 f.r2 f.r3 z.b) (some f) f.r1 false m1 dd o1 (2 * f.runs.length + x) (hm.less (by omega)) hfb.1 hfb.2 hres
  replace hS : Sat w0 w ((mch bm pv fuel m1) :: (FB bd dd.id dd.fn dd.r0 dd.r1 dd.r2 dd.r3 t2 (ptr bf 0) dd.dfr dd.cnt dd.lvg dd.en dd.pan) :: (rQ t2 dd.runs) :: (FB bf f.id f.fn f.r0 o1 f.r2 f.r3 t1 (fpv) f.dfr f.cnt f.lvg f.en f.pan) :: (rQ t1 f.runs) :: (SX.blk b1 [iv z.k, iv z.a, iv z.b] 98) :: (qV fpv qv (qX p o)) :: Rs) := hS
  have ha : Has 282 [(0, ptr bm 0), (1, ptr bf 0), (5, ptr b1 0), (6, .bool false), (7, iv z.a), (12, iv z.k), (63, .bool (decide (z.k = 4))), (65, ptr bm 0), (66, ptr b1 1), (67, iv z.a), (68, ptr bf 0), (69, ptr b1 2), (70, iv z.b), (71, ptr bf 0), (72, ptr bf 2), (73, .pointer (some ⟨bf, 2 + (z.b : Int).toNat * 1, none⟩)), (74, iv (g4 f.r0 f.r1 f.r2 f.r3 z.b)), (75, ptr bf 0), (76, ptr bd 0)] a := ha.keeps [0, 1, 5, 6, 7, 12, 63, 65, 66, 67, 68, 69, 70, 71, 72, 73, 74, 75, 76] _ rfl
  refine xJ (jK (k := 0) [(12, 8, ptr bd 0)] ha (.inl (by kernel_rfl)) fun a ha => ?_)
  refine xX ?_
  replace ha := ha.as [(1, ptr bf 0), (6, .bool false), (8, ptr bd 0)] rfl
  refine jJ (kG (J := fun a_ w_ => Has 282 [(1, ptr bf 0), (6, .bool false), (8, ptr bd 0)] a_ ∧ Sat w0 w_ ((mch bm pv fuel m1) :: (FB bd dd.id dd.fn dd.r0 dd.r1 dd.r2 dd.r3 t2 (ptr bf 0) dd.dfr dd.cnt dd.lvg dd.en dd.pan) :: (rQ t2 dd.runs) :: (FB bf f.id f.fn f.r0 o1 f.r2 f.r3 t1 (fpv) f.dfr f.cnt (f.lvg || dd.lvg) f.en f.pan) :: (rQ t1 f.runs) :: (SX.blk b1 [iv z.k, iv z.a, iv z.b] 98) :: (qV fpv qv (qX p o)) :: Rs)) ?_ ?_)
  ·
   refine jX [0, 1, 2, 3, 4, 5, 6, 7, 8, 9, 10, 11, 12, 13] (jQ [(0, 77, ptr bf 0), (1, 78, ptr bf 0), (2, 79, ptr bf 0), (3, 80, ptr bf 10)] ha fun a ha => ?_);refine jU (d := 81) (b := bf) (j := 10) ha (hS.blk 3 rfl) rfl fun a ha => ?_;refine jQ [(5, 82, .bool f.lvg)] ha fun a ha => ?_
   rcases Bool.eq_false_or_eq_true f.lvg with c11 | c11
   ·
    replace ha := ha.turn 81 (.bool true) rfl (congrArg Value.bool c11);replace ha := ha.turn 82 (.bool true) rfl (congrArg Value.bool c11);refine jQ [(6, 83, undef), (7, 84, undef), (8, 85, undef), (9, 86, undef), (10, 87, .bool true), (11, 88, ptr bf 0), (12, 89, ptr bf 10)] ha fun a ha => ?_;refine jZ (qH bf 10 (.bool true) 3 ha hS rfl rfl fun w a hS ha => ?_);refine jY ?_;have e12 : (f.lvg || dd.lvg) = true := by simp [c3, c4, c5, c8, c11]
    refine jJ ⟨?_, ?_⟩
    · first | (rw [e12]; exact ha.keeps [1, 6, 8] _ rfl) | exact ha.keeps [1, 6, 8] _ rfl
    · first | (rw [e12]; exact hS) | exact hS
   replace ha := ha.turn 81 (.bool false) rfl (congrArg Value.bool c11);replace ha := ha.turn 82 (.bool false) rfl (congrArg Value.bool c11);refine jQ [(6, 83, ptr bd 0), (7, 84, ptr bd 0), (8, 85, ptr bd 10)] ha fun a ha => ?_;refine jU (d := 86) (b := bd) (j := 10) ha (hS.blk 1 rfl) rfl fun a ha => ?_;refine jQ [(10, 87, .bool dd.lvg), (11, 88, ptr bf 0), (12, 89, ptr bf 10)] ha fun a ha => ?_;refine jZ (qH bf 10 (.bool dd.lvg) 3 ha hS rfl rfl fun w a hS ha => ?_);refine jY ?_;have e13 : (f.lvg || dd.lvg) = dd.lvg := by simp [c3, c4, c5, c8, c11]
   refine jJ ⟨?_, ?_⟩
   · first | (rw [e13]; exact ha.keeps [1, 6, 8] _ rfl) | exact ha.keeps [1, 6, 8] _ rfl
   · first | (rw [e13]; exact hS) | exact hS
  rintro a w ⟨ha, hS⟩
  refine wp_seq (wp_seq (jX [0, 1, 2, 3, 4] (jQ [(0, 90, ptr bd 0), (1, 91, ptr bd 0), (2, 92, ptr bd 11)] ha fun a ha => ?_)))
  refine jU (d := 93) (b := bd) (j := 11) ha (hS.blk 1 rfl) rfl fun a ha => ?_
  refine jQ [(4, 94, .bool (decide (dd.en = 1)))] ha fun a ha => ?_
  refine jY (jJ ?_)
  by_cases c14 : dd.en = 1
  ·
   refine jG ha rfl (decide_eq_true c14) ?_;refine wp_seq (xH 9 10 hS fun w hS => ?_);refine jK (k := 5) [(0, 95, ptr bf 0), (1, 96, ptr bd 0), (2, 97, ptr bd 0), (3, 98, ptr bd 2), (4, 99, ptr bd 3)] ha (.inr hS) fun a ha => ?_;refine qW 5 (d := 100) (b := bd) (j := 3) ha hS (fun _ hw => hw.blk 1 rfl) rfl fun a ha => ?_;refine jK (k := 1) [(6, 101, ptr bf 0), (7, 102, ptr bf 2), (8, 103, ptr bf 4)] ha (.inr hS) fun a ha => ?_;refine jH 9 (qH bf 4 (iv dd.r1) 3 ha hS rfl rfl fun w a hS ha => ?_);refine xJ (xX (jJ (wp_seq (jX [0] (jQ [(0, 6, .bool false)] ha fun a ha => ?_)))));refine jY ?_;replace ha := ha.as [(1, ptr bf 0), (8, ptr bd 0), (6, .bool false)] rfl;refine jJ (wp_ret (xQ (in_r (xQ ?_))));refine end_tmp (t := 6) (v := .bool false) ha (by kernel_rfl) rfl ?_;replace hS := hS.pickN 7 [3, 4, 0, 1, 2, 5, 6];obtain ⟨f_5, hf_5⟩ : ∃ z_ : FS, z_ = (⟨f.id, f.fn, f.r0, o1, dd.r1, f.r3, f.runs, f.dfr, f.cnt, (f.lvg || dd.lvg), f.en, f.pan⟩ : FS) := ⟨_, rfl⟩;replace hS : Sat w0 w ((frm bf f_5 (fpv)) :: (mch bm pv fuel m1) :: (FB bd dd.id dd.fn dd.r0 dd.r1 dd.r2 dd.r3 t2 (ptr bf 0) dd.dfr dd.cnt dd.lvg dd.en dd.pan) :: (rQ t2 dd.runs) :: (SX.blk b1 [iv z.k, iv z.a, iv z.b] 98) :: (qV fpv qv (qX p o)) :: Rs) := by rw [hf_5]; exact Sat.shutF t1 hS
   replace hS := hS.pickN 6 [1, 0, 5];refine ⟨m1, f_5, o, false, ?_, rfl, hS⟩;rw [hf_5]; simp [stepS, FS.get, FS.set, hres, c8, c14]
  refine jV ha rfl (decide_eq_false c14) ?_
  refine wp_skip (jJ (wp_seq (xH 12 16 hS fun w hS => ?_)))
  refine jK (k := 11) [(0, 104, ptr bf 0), (1, 105, ptr bf 0), (2, 106, ptr bd 0), (3, 107, ptr bd 0), (4, 108, ptr bd 11)] ha (.inr hS) fun a ha => ?_
  refine qW 5 (d := 109) (b := bd) (j := 11) ha hS (fun _ hw => hw.blk 1 rfl) rfl fun a ha => ?_
  refine jK (k := 7) [(6, 110, ptr bd 0), (7, 111, ptr bd 0), (8, 112, ptr bd 12)] ha (.inr hS) fun a ha => ?_
  refine qW 9 (d := 113) (b := bd) (j := 12) ha hS (fun _ hw => hw.blk 1 rfl) rfl fun a ha => ?_
  refine jK (k := 4) [(10, 114, ptr bf 0), (11, 115, ptr bf 11)] ha (.inr hS) fun a ha => ?_
  refine jH 12 (qH bf 11 (iv dd.en) 3 ha hS rfl rfl fun w a hS ha => ?_)
  refine xJ (jK (k := 1) [(13, 116, ptr bf 0), (14, 117, ptr bf 12)] ha (.inl (by kernel_rfl)) fun a ha => ?_)
  refine jH 15 (qH bf 12 (iv dd.pan) 3 ha hS rfl rfl fun w a hS ha => ?_)
  refine xJ (xX ?_)
  replace ha := ha.as [(6, .bool false)] rfl
  refine jJ (wp_seq (jX [0] (jQ [(0, 6, .bool true)] ha fun a ha => ?_)))
  refine jY (jJ (wp_ret (in_r (xQ ?_))))
  refine end_tmp (t := 6) (v := .bool true) ha (by kernel_rfl) rfl ?_
  replace hS := hS.pickN 7 [3, 4, 0, 1, 2, 5, 6]
  obtain ⟨f_6, hf_6⟩ : ∃ z_ : FS, z_ = (⟨f.id, f.fn, f.r0, o1, f.r2, f.r3, f.runs, f.dfr, f.cnt, (f.lvg || dd.lvg), dd.en, dd.pan⟩ : FS) := ⟨_, rfl⟩
  replace hS : Sat w0 w ((frm bf f_6 (fpv)) :: (mch bm pv fuel m1) :: (FB bd dd.id dd.fn dd.r0 dd.r1 dd.r2 dd.r3 t2 (ptr bf 0) dd.dfr dd.cnt dd.lvg dd.en dd.pan) :: (rQ t2 dd.runs) :: (SX.blk b1 [iv z.k, iv z.a, iv z.b] 98) :: (qV fpv qv (qX p o)) :: Rs) := by rw [hf_6]; exact Sat.shutF t1 hS
  replace hS := hS.pickN 6 [1, 0, 5]
  refine ⟨m1, f_6, o, true, ?_, rfl, hS⟩
  rw [hf_6]; simp [stepS, FS.get, FS.set, hres, c8, c14]
 refine jV ha rfl (decide_eq_false c8) ?_
 refine wp_seq (jX [0, 1] (jQ [(0, 119, .bool (decide (z.k = 5))), (1, 118, .bool (decide (z.k = 5)))] ha fun a ha => ?_))
 refine jY (jJ ?_)
 by_cases c15 : z.k = 5
 ·
  refine jG ha rfl (decide_eq_true c15) ?_
  refine wp_seq (xY 19 20 (hS.pickN 12 [0, 1, 9]) hS fun w hS => ?_)
  refine jK (k := 16) [(0, 120, ptr bf 0), (1, 121, ptr bf 0), (2, 122, ptr bf 0), (3, 123, ptr bf 6)] ha (.inr (hS.pickN 12 [0, 1, 9])) fun a ha => ?_
  refine qW 4 (d := 124) (b := bf) (j := 6) ha (hS.pickN 12 [0, 1, 9]) (fun _ hw => hw.blk 2 rfl) rfl fun a ha => ?_
  refine jK (k := 14) [(5, 125, ptr b1 1)] ha (.inr (hS.pickN 12 [0, 1, 9])) fun a ha => ?_
  refine qW 6 (d := 126) (b := b1) (j := 1) ha (hS.pickN 12 [0, 1, 9]) (fun _ hw => hw.blk 0 rfl) rfl fun a ha => ?_
  refine jK (k := 11) [(7, 127, ptr bf 0), (8, 128, ptr b1 2)] ha (.inr (hS.pickN 12 [0, 1, 9])) fun a ha => ?_
  refine qW 9 (d := 129) (b := b1) (j := 2) ha (hS.pickN 12 [0, 1, 9]) (fun _ hw => hw.blk 0 rfl) rfl fun a ha => ?_
  refine jK (k := 8) [(10, 130, ptr bf 0), (11, 131, ptr bf 2)] ha (.inr (hS.pickN 12 [0, 1, 9])) fun a ha => ?_
  refine zQ 12 (.pointer (some ⟨bf, 2 + (z.b : Int).toNat * 1, none⟩)) ha (yV (len := 4) (el := 3) (sz := 1) ha (yU (t := 122) (x := 131) (y := 129) (d := 132)) rfl rfl (by kernel_rfl) (by kernel_rfl) (by have := (reg4 (hs_.b (by omega))); omega) (by have := (reg4 (hs_.b (by omega))); omega)) (.inr (hS.pickN 12 [0, 1, 9])) fun a ha => ?_
  refine zH 13 (iv (g4 f.r0 f.r1 f.r2 f.r3 z.b)) ha (v_load (cs := [iv f.id, iv f.fn, iv f.r0, iv f.r1, iv f.r2, iv f.r3, .slice t.A t.n t.c, fpv, .bool f.dfr, .bool f.cnt, .bool f.lvg, iv f.en, iv f.pan]) (T := 143) ha (zV (t := 3) (x := 132) (d := 133) (ty := 3)) rfl (by kernel_rfl) (fun _ hw => hw.blk 2 rfl) (by rcases (reg4 (hs_.b (by omega))) with h | h | h | h <;> simp [h, g4])) (hS.pickN 12 [0, 1, 9]) fun a ha => ?_
  refine jK (k := 5) [(14, 134, .agg #[iv z.a, iv (g4 f.r0 f.r1 f.r2 f.r3 z.b)])] ha (.inr (hS.pickN 12 [0, 1, 9])) fun a ha => ?_
  refine jH 15 (qJ 135 [iv z.a, iv (g4 f.r0 f.r1 f.r2 f.r3 z.b)] 175 (fun b => .slice (some ⟨b, 0, none⟩) 1 1) ha hS fun b16 w a hb17 hS ha => ?_)
  refine ⟨.inr (hS.pickN 13 [1, 2, 10]), ?_⟩
  refine jH 16 (o_ap 136 11 0 (encR (f.runs ++ [(z.a, g4 f.r0 f.r1 f.r2 f.r3 z.b)])) ha hS rfl rfl (by rw [encR_length]; simp only [List.length_cons, List.length_nil]; have := hlen; omega) (encR_snoc _ _ _) fun s21 w a hS hn22 ha => ?_)
  refine ⟨.inr (hS.pickN 13 [1, 2, 10]), ?_⟩
  refine jK (k := 1) [(17, 137, ptr bf 0), (18, 138, ptr bf 6)] ha (.inr (hS.pickN 13 [1, 2, 10])) fun a ha => ?_
  refine jH 19 (qH bf 6 (.slice s21.A s21.n s21.c) 10 ha hS rfl rfl fun w a hS ha => ?_)
  refine xJ (xX ?_)
  replace ha := ha.as [(0, ptr bm 0), (1, ptr bf 0), (5, ptr b1 0), (6, .bool false)] rfl
  refine jJ (xH 14 15 hS fun w hS => ?_)
  refine jK (k := 13) [(0, 139, ptr bm 0), (1, 140, ptr b1 1)] ha (.inr hS) fun a ha => ?_
  refine qW 2 (d := 141) (b := b1) (j := 1) ha hS (fun _ hw => hw.blk 1 rfl) rfl fun a ha => ?_
  refine jK (k := 10) [(3, 142, ptr bf 0), (4, 143, ptr b1 2)] ha (.inr hS) fun a ha => ?_
  refine d_ldN 5 (d := 144) (b := b1) (j := 2) ha hS (fun _ hw => hw.blk 1 rfl) rfl fun a ha => ?_
  refine jK (k := 7) [(6, 145, ptr bf 0), (7, 146, ptr bf 2)] ha (.inr hS) fun a ha => ?_
  refine zQ 8 (.pointer (some ⟨bf, 2 + (z.b : Int).toNat * 1, none⟩)) ha (yV (len := 4) (el := 3) (sz := 1) ha (yU (t := 122) (x := 146) (y := 144) (d := 147)) rfl rfl (by kernel_rfl) (by kernel_rfl) (by have := (reg4 (hs_.b (by omega))); omega) (by have := (reg4 (hs_.b (by omega))); omega)) (.inr hS) fun a ha => ?_
  refine zH 9 (iv (g4 f.r0 f.r1 f.r2 f.r3 z.b)) ha (v_load (cs := [iv f.id, iv f.fn, iv f.r0, iv f.r1, iv f.r2, iv f.r3, .slice s21.A s21.n s21.c, fpv, .bool f.dfr, .bool f.cnt, .bool f.lvg, iv f.en, iv f.pan]) (T := 143) ha (zV (t := 3) (x := 147) (d := 148) (ty := 3)) rfl (by kernel_rfl) (fun _ hw => hw.blk 10 rfl) (by rcases (reg4 (hs_.b (by omega))) with h | h | h | h <;> simp [h, g4])) hS fun a ha => ?_
  refine jK (k := 2) [(10, 149, ptr bf 0), (11, 150, ptr bf 0), (12, 151, ptr bf 0)] ha (.inr hS) fun a ha => ?_
  refine qW 13 (d := 152) (b := bf) (j := 0) ha hS (fun _ hw => hw.blk 10 rfl) rfl fun a ha => ?_
  replace hS := hS.pickN 13 [2, 3, 4, 5, 6, 7, 8, 9, 0, 1, 10, 11, 12]
  obtain ⟨m_5, hm_5⟩ : ∃ z_ : MS, z_ = (⟨m.made, m.shared, m.depth, m.deepest, m.trace, m.owners, m.calls, m.panics, m.recs, m.places⟩ : MS) := ⟨_, rfl⟩
  replace hS : Sat w0 w ((mch bm pv fuel m_5) :: (SX.blk b16 [iv z.a, iv (g4 f.r0 f.r1 f.r2 f.r3 z.b)] 175) :: (SX.blk b1 [iv z.k, iv z.a, iv z.b] 98) :: (FB bf f.id f.fn f.r0 f.r1 f.r2 f.r3 s21 (fpv) f.dfr f.cnt f.lvg f.en f.pan) :: (rQ s21 (f.runs ++ [(z.a, g4 f.r0 f.r1 f.r2 f.r3 z.b)])) :: (qV fpv qv (qX p o)) :: Rs) := by rw [hm_5]; exact Sat.shutM (⟨s.tr, s.ow, s.ca, s.pa, s.re, s.us, s.bp⟩ : MSl) (hs) hS
  refine jH 14 (qG 153 (vs := [ptr bm 0, iv 2, iv z.a, iv (g4 f.r0 f.r1 f.r2 f.r3 z.b), iv f.id]) ha (tell_calls w0 w _ bm pv fuel m_5 2 z.a (g4 f.r0 f.r1 f.r2 f.r3 z.b) f.id hS (by rw [hm_5]; simp only []; omega)) fun v23 w a hp24 ha => ?_)
  obtain ⟨rfl, hS⟩ := hp24
  refine xJ (xX ?_)
  replace ha := ha.as [(6, .bool false)] rfl
  refine in_n (jJ (wp_seq (jX [0] (jQ [(0, 6, .bool false)] ha fun a ha => ?_))))
  refine jY (jJ (wp_ret ?_))
  refine end_tmp (t := 6) (v := .bool false) ha (by kernel_rfl) rfl ?_
  replace hS := hS.pickN 6 [3, 4, 0, 1, 2, 5]
  obtain ⟨f_7, hf_7⟩ : ∃ z_ : FS, z_ = (⟨f.id, f.fn, f.r0, f.r1, f.r2, f.r3, (f.runs ++ [(z.a, g4 f.r0 f.r1 f.r2 f.r3 z.b)]), f.dfr, f.cnt, f.lvg, f.en, f.pan⟩ : FS) := ⟨_, rfl⟩
  replace hS : Sat w0 w ((frm bf f_7 (fpv)) :: (mch bm pv fuel (m_5.tell 2 z.a (g4 f.r0 f.r1 f.r2 f.r3 z.b) f.id)) :: (SX.blk b16 [iv z.a, iv (g4 f.r0 f.r1 f.r2 f.r3 z.b)] 175) :: (SX.blk b1 [iv z.k, iv z.a, iv z.b] 98) :: (qV fpv qv (qX p o)) :: Rs) := by rw [hf_7]; exact Sat.shutF s21 hS
  replace hS := hS.pickN 5 [1, 0, 4]
  refine ⟨(m_5.tell 2 z.a (g4 f.r0 f.r1 f.r2 f.r3 z.b) f.id), f_7, o, false, ?_, rfl, hS⟩
  rw [hf_7, hm_5]; simp [stepS, FS.get, FS.set, c15]
 refine jV ha rfl (decide_eq_false c15) ?_
 refine wp_seq (jX [0, 1] (jQ [(0, 155, .bool (decide (z.k = 6))), (1, 154, .bool (decide (z.k = 6)))] ha fun a ha => ?_))
 refine jY (jJ ?_)
 by_cases c25 : z.k = 6
 ·
  refine jG ha rfl (decide_eq_true c25) ?_
  refine wp_seq (jX [0, 1, 2, 3, 4, 5, 6, 7, 8, 9, 10, 11, 12] (jQ [(0, 156, ptr bf 0), (1, 157, ptr bf 0), (2, 158, ptr bm 0), (3, 159, ptr bm 0), (4, 160, ptr bm 9)] ha fun a ha => ?_))
  refine jU (d := 161) (b := bm) (j := 9) ha (hS.blk 1 rfl) rfl fun a ha => ?_
  refine jQ [(6, 162, iv (s.pa.n : Int)), (7, 163, ptr bf 0), (8, 164, ptr bf 11)] ha fun a ha => ?_
  refine jZ (qH bf 11 (iv 2) 9 ha hS rfl rfl fun w a hS ha => ?_)
  refine jQ [(10, 165, ptr bf 0), (11, 166, ptr bf 12)] ha fun a ha => ?_
  refine jZ (qH bf 12 (iv (s.pa.n : Int)) 9 ha hS rfl rfl fun w a hS ha => ?_)
  refine jY ?_
  replace ha := ha.as [(0, ptr bm 0), (1, ptr bf 0), (6, .bool false), (7, iv z.a)] rfl
  refine jJ (wp_seq (xY 32 33 (hS.pickN 12 [0, 1, 9]) hS fun w hS => ?_))
  refine jK (k := 29) [(0, 167, ptr bm 0), (1, 168, ptr bm 0), (2, 169, ptr bm 0), (3, 170, ptr bm 9)] ha (.inr (hS.pickN 12 [0, 1, 9])) fun a ha => ?_
  refine qW 4 (d := 171) (b := bm) (j := 9) ha (hS.pickN 12 [0, 1, 9]) (fun _ hw => hw.blk 1 rfl) rfl fun a ha => ?_
  refine jK (k := 25) [(5, 172, ptr bf 0), (6, 173, ptr bf 0), (7, 174, ptr bf 0)] ha (.inr (hS.pickN 12 [0, 1, 9])) fun a ha => ?_
  refine qW 8 (d := 175) (b := bf) (j := 0) ha (hS.pickN 12 [0, 1, 9]) (fun _ hw => hw.blk 2 rfl) rfl fun a ha => ?_
  refine jK (k := 21) [(9, 176, ptr bf 0), (10, 177, ptr bf 0), (11, 178, ptr bf 1)] ha (.inr (hS.pickN 12 [0, 1, 9])) fun a ha => ?_
  refine qW 12 (d := 179) (b := bf) (j := 1) ha (hS.pickN 12 [0, 1, 9]) (fun _ hw => hw.blk 2 rfl) rfl fun a ha => ?_
  refine jK (k := 16) [(13, 180, ptr bf 0), (14, 181, iv z.a), (15, 182, ptr bf 0), (16, 183, ptr bf 2)] ha (.inr (hS.pickN 12 [0, 1, 9])) fun a ha => ?_
  refine zQ 17 (.pointer (some ⟨bf, 2 + (z.a : Int).toNat * 1, none⟩)) ha (yV (len := 4) (el := 3) (sz := 1) ha (yU (t := 122) (x := 183) (y := 181) (d := 184)) rfl rfl (by kernel_rfl) (by kernel_rfl) (by have := (reg4 (hs_.a (by omega) (by omega) (by omega) (by omega))); omega) (by have := (reg4 (hs_.a (by omega) (by omega) (by omega) (by omega))); omega)) (.inr (hS.pickN 12 [0, 1, 9])) fun a ha => ?_
  refine zH 18 (iv (g4 f.r0 f.r1 f.r2 f.r3 z.a)) ha (v_load (cs := [iv f.id, iv f.fn, iv f.r0, iv f.r1, iv f.r2, iv f.r3, .slice t.A t.n t.c, fpv, .bool f.dfr, .bool f.cnt, .bool f.lvg, iv 2, iv (s.pa.n : Int)]) (T := 143) ha (zV (t := 3) (x := 184) (d := 185) (ty := 3)) rfl (by kernel_rfl) (fun _ hw => hw.blk 2 rfl) (by rcases (reg4 (hs_.a (by omega) (by omega) (by omega) (by omega))) with h | h | h | h <;> simp [h, g4])) (hS.pickN 12 [0, 1, 9]) fun a ha => ?_
  refine jK (k := 11) [(19, 186, ptr bm 0), (20, 187, ptr bm 0), (21, 188, ptr bm 4)] ha (.inr (hS.pickN 12 [0, 1, 9])) fun a ha => ?_
  refine qW 22 (d := 189) (b := bm) (j := 4) ha (hS.pickN 12 [0, 1, 9]) (fun _ hw => hw.blk 1 rfl) rfl fun a ha => ?_
  refine jK (k := 7) [(23, 190, ptr bf 0), (24, 191, ptr bf 0), (25, 192, ptr bf 9)] ha (.inr (hS.pickN 12 [0, 1, 9])) fun a ha => ?_
  refine qW 26 (d := 193) (b := bf) (j := 9) ha (hS.pickN 12 [0, 1, 9]) (fun _ hw => hw.blk 2 rfl) rfl fun a ha => ?_
  refine jK (k := 5) [(27, 194, .agg #[iv f.id, iv f.fn, iv (g4 f.r0 f.r1 f.r2 f.r3 z.a), iv m.depth, iv 0, iv (-1), iv (-1), .bool f.cnt, .slice none 0 0])] ha (.inr (hS.pickN 12 [0, 1, 9])) fun a ha => ?_
  refine jH 28 (qJ 195 [iv f.id, iv f.fn, iv (g4 f.r0 f.r1 f.r2 f.r3 z.a), iv m.depth, iv 0, iv (-1), iv (-1), .bool f.cnt, .slice none 0 0] 113 (fun b => .slice (some ⟨b, 0, none⟩) 1 1) ha hS fun b26 w a hb27 hS ha => ?_)
  refine ⟨.inr (hS.pickN 13 [1, 2, 10]), ?_⟩
  refine jH 29 (o_ap 196 6 0 (encP (s.us ++ [((⟨f.id, f.fn, g4 f.r0 f.r1 f.r2 f.r3 z.a, m.depth, 0, (-1), (-1), f.cnt, []⟩ : PanI), (⟨none, 0, 0⟩ : Sl))])) ha hS rfl rfl (by rw [encP_length]; simp only [List.length_cons, List.length_nil]; have := hlen; omega) (encP_snoc _ _ _ _ _ _ _ _ _) fun s31 w a hS hn32 ha => ?_)
  refine ⟨.inr (hS.pickN 13 [1, 2, 10]), ?_⟩
  refine jK (k := 1) [(30, 197, ptr bm 0), (31, 198, ptr bm 9)] ha (.inr (hS.pickN 13 [1, 2, 10])) fun a ha => ?_
  refine jH 32 (qH bm 9 (.slice s31.A s31.n s31.c) 2 ha hS rfl rfl fun w a hS ha => ?_)
  refine xJ (xX ?_)
  replace ha := ha.as [(0, ptr bm 0), (1, ptr bf 0), (6, .bool false), (7, iv z.a)] rfl
  refine jJ (wp_seq (xH 15 16 hS fun w hS => ?_))
  refine jK (k := 12) [(0, 199, ptr bm 0), (1, 200, ptr bf 0), (2, 201, ptr bf 0), (3, 202, ptr bf 1)] ha (.inr hS) fun a ha => ?_
  refine qW 4 (d := 203) (b := bf) (j := 1) ha hS (fun _ hw => hw.blk 10 rfl) rfl fun a ha => ?_
  refine jK (k := 7) [(5, 204, ptr bf 0), (6, 205, iv z.a), (7, 206, ptr bf 0), (8, 207, ptr bf 2)] ha (.inr hS) fun a ha => ?_
  refine zQ 9 (.pointer (some ⟨bf, 2 + (z.a : Int).toNat * 1, none⟩)) ha (yV (len := 4) (el := 3) (sz := 1) ha (yU (t := 122) (x := 207) (y := 205) (d := 208)) rfl rfl (by kernel_rfl) (by kernel_rfl) (by have := (reg4 (hs_.a (by omega) (by omega) (by omega) (by omega))); omega) (by have := (reg4 (hs_.a (by omega) (by omega) (by omega) (by omega))); omega)) (.inr hS) fun a ha => ?_
  refine zH 10 (iv (g4 f.r0 f.r1 f.r2 f.r3 z.a)) ha (v_load (cs := [iv f.id, iv f.fn, iv f.r0, iv f.r1, iv f.r2, iv f.r3, .slice t.A t.n t.c, fpv, .bool f.dfr, .bool f.cnt, .bool f.lvg, iv 2, iv (s.pa.n : Int)]) (T := 143) ha (zV (t := 3) (x := 208) (d := 209) (ty := 3)) rfl (by kernel_rfl) (fun _ hw => hw.blk 10 rfl) (by rcases (reg4 (hs_.a (by omega) (by omega) (by omega) (by omega))) with h | h | h | h <;> simp [h, g4])) hS fun a ha => ?_
  refine jK (k := 2) [(11, 210, ptr bf 0), (12, 211, ptr bf 0), (13, 212, ptr bf 0)] ha (.inr hS) fun a ha => ?_
  refine qW 14 (d := 213) (b := bf) (j := 0) ha hS (fun _ hw => hw.blk 10 rfl) rfl fun a ha => ?_
  replace hS := hS.pickN 13 [7, 0, 1, 2, 3, 4, 5, 6, 8, 9, 10, 11, 12]
  replace hS : Sat w0 w ((jW (yQ (s.us ++ [((⟨f.id, f.fn, g4 f.r0 f.r1 f.r2 f.r3 z.a, m.depth, 0, (-1), (-1), f.cnt, []⟩ : PanI), (⟨none, 0, 0⟩ : Sl))]))) :: (SX.blk b26 [iv f.id, iv f.fn, iv (g4 f.r0 f.r1 f.r2 f.r3 z.a), iv m.depth, iv 0, iv (-1), iv (-1), .bool f.cnt, .slice none 0 0] 113) :: (SX.blk b1 [iv z.k, iv z.a, iv z.b] 98) :: (MB bm pv fuel m.made m.shared m.depth m.deepest s.tr s.ow s.ca s31 s.re s.bp) :: (rE s.tr m.trace) :: (rI s.ow m.owners) :: (rC s.ca m.calls) :: (rP s31 (s.us ++ [((⟨f.id, f.fn, g4 f.r0 f.r1 f.r2 f.r3 z.a, m.depth, 0, (-1), (-1), f.cnt, []⟩ : PanI), (⟨none, 0, 0⟩ : Sl))])) :: (rV s.re m.recs) :: (yY s.bp m.places) :: (FB bf f.id f.fn f.r0 f.r1 f.r2 f.r3 t (fpv) f.dfr f.cnt f.lvg 2 (s.pa.n : Int)) :: (rQ t f.runs) :: (qV fpv qv (qX p o)) :: Rs) := Sat.unwL_snoc rfl hS
  replace hS := hS.pickN 13 [3, 4, 5, 6, 7, 0, 8, 9, 1, 2, 10, 11, 12]
  obtain ⟨m_6, hm_6⟩ : ∃ z_ : MS, z_ = (⟨m.made, m.shared, m.depth, m.deepest, m.trace, m.owners, m.calls, (m.panics ++ [(⟨f.id, f.fn, g4 f.r0 f.r1 f.r2 f.r3 z.a, m.depth, 0, (-1), (-1), f.cnt, []⟩ : PanI)]), m.recs, m.places⟩ : MS) := ⟨_, rfl⟩
  replace hS : Sat w0 w ((mch bm pv fuel m_6) :: (SX.blk b26 [iv f.id, iv f.fn, iv (g4 f.r0 f.r1 f.r2 f.r3 z.a), iv m.depth, iv 0, iv (-1), iv (-1), .bool f.cnt, .slice none 0 0] 113) :: (SX.blk b1 [iv z.k, iv z.a, iv z.b] 98) :: (FB bf f.id f.fn f.r0 f.r1 f.r2 f.r3 t (fpv) f.dfr f.cnt f.lvg 2 (s.pa.n : Int)) :: (rQ t f.runs) :: (qV fpv qv (qX p o)) :: Rs) := by rw [hm_6]; exact Sat.shutM (⟨s.tr, s.ow, s.ca, s31, s.re, (s.us ++ [((⟨f.id, f.fn, g4 f.r0 f.r1 f.r2 f.r3 z.a, m.depth, 0, (-1), (-1), f.cnt, []⟩ : PanI), (⟨none, 0, 0⟩ : Sl))]), s.bp⟩ : MSl) (by rw [List.map_append, hs]; rfl) hS
  refine jH 15 (qG 214 (vs := [ptr bm 0, iv 5, iv f.fn, iv (g4 f.r0 f.r1 f.r2 f.r3 z.a), iv f.id]) ha (tell_calls w0 w _ bm pv fuel m_6 5 f.fn (g4 f.r0 f.r1 f.r2 f.r3 z.a) f.id hS (by rw [hm_6]; simp only []; omega)) fun v33 w a hp34 ha => ?_)
  obtain ⟨rfl, hS⟩ := hp34
  refine xJ (xX ?_)
  replace ha := ha.as [(6, .bool false)] rfl
  refine jJ (wp_seq (jX [0] (jQ [(0, 6, .bool true)] ha fun a ha => ?_)))
  refine jY (jJ (wp_ret (in_r (xQ ?_))))
  refine end_tmp (t := 6) (v := .bool true) ha (by kernel_rfl) rfl ?_
  replace hS := hS.pickN 6 [3, 4, 0, 1, 2, 5]
  obtain ⟨f_8, hf_8⟩ : ∃ z_ : FS, z_ = (⟨f.id, f.fn, f.r0, f.r1, f.r2, f.r3, f.runs, f.dfr, f.cnt, f.lvg, 2, (s.pa.n : Int)⟩ : FS) := ⟨_, rfl⟩
  replace hS : Sat w0 w ((frm bf f_8 (fpv)) :: (mch bm pv fuel (m_6.tell 5 f.fn (g4 f.r0 f.r1 f.r2 f.r3 z.a) f.id)) :: (SX.blk b26 [iv f.id, iv f.fn, iv (g4 f.r0 f.r1 f.r2 f.r3 z.a), iv m.depth, iv 0, iv (-1), iv (-1), .bool f.cnt, .slice none 0 0] 113) :: (SX.blk b1 [iv z.k, iv z.a, iv z.b] 98) :: (qV fpv qv (qX p o)) :: Rs) := by rw [hf_8]; exact Sat.shutF t hS
  replace hS := hS.pickN 5 [1, 0, 4]
  refine ⟨(m_6.tell 5 f.fn (g4 f.r0 f.r1 f.r2 f.r3 z.a) f.id), f_8, o, true, ?_, rfl, hS⟩
  rw [hf_8, hm_6]; simp [stepS, FS.get, FS.set, hpn, c25]
 refine jV ha rfl (decide_eq_false c25) ?_
 refine wp_seq (jX [0, 1] (jQ [(0, 216, .bool (decide (z.k = 7))), (1, 215, .bool (decide (z.k = 7)))] ha fun a ha => ?_))
 refine jY ?_
 replace ha := ha.as [(0, ptr bm 0), (1, ptr bf 0), (6, .bool false), (7, iv z.a), (12, iv z.k), (215, .bool (decide (z.k = 7)))] rfl
 refine jJ ?_
 by_cases c35 : z.k = 7
 ·
  refine jG ha rfl (decide_eq_true c35) ?_
  refine jX [0, 1, 2, 3] (jQ [(0, 217, ptr bm 0), (1, 218, ptr bf 0), (2, 219, iv z.a)] ha fun a ha => ?_)
  replace hS := hS.pickN 12 [1, 2, 3, 4, 5, 6, 7, 8, 0, 9, 10, 11]
  obtain ⟨m_7, hm_7⟩ : ∃ z_ : MS, z_ = (⟨m.made, m.shared, m.depth, m.deepest, m.trace, m.owners, m.calls, m.panics, m.recs, m.places⟩ : MS) := ⟨_, rfl⟩
  replace hS : Sat w0 w ((mch bm pv fuel m_7) :: (SX.blk b1 [iv z.k, iv z.a, iv z.b] 98) :: (FB bf f.id f.fn f.r0 f.r1 f.r2 f.r3 t (fpv) f.dfr f.cnt f.lvg f.en f.pan) :: (rQ t f.runs) :: (qV fpv qv (qX p o)) :: Rs) := by rw [hm_7]; exact Sat.shutM (⟨s.tr, s.ow, s.ca, s.pa, s.re, s.us, s.bp⟩ : MSl) (hs) hS
  replace hS := hS.pickN 5 [2, 3, 0, 1, 4]
  obtain ⟨f_9, hf_9⟩ : ∃ z_ : FS, z_ = (⟨f.id, f.fn, f.r0, f.r1, f.r2, f.r3, f.runs, f.dfr, f.cnt, f.lvg, f.en, f.pan⟩ : FS) := ⟨_, rfl⟩
  replace hS : Sat w0 w ((frm bf f_9 (fpv)) :: (mch bm pv fuel m_7) :: (SX.blk b1 [iv z.k, iv z.a, iv z.b] 98) :: (qV fpv qv (qX p o)) :: Rs) := by rw [hf_9]; exact Sat.shutF t hS
  have e1 : m_7 = m := hm_7
  have e2 : f_9 = f := hf_9
  replace hS : Sat w0 w ((frm bf f fpv) :: (mch bm pv fuel m) :: (SX.blk b1 [iv z.k, iv z.a, iv z.b] 98) :: (qV fpv qv (qX p o)) :: Rs) := by rw [e1, e2] at hS; exact hS
  replace hS := hS.pickN 4 [1, 0, 3, 2]
  refine jZ (qG 220 (vs := [ptr bm 0, ptr bf 0, iv z.a]) ha (recover_calls w0 w _ bm bf pv fuel m f fpv qv (qX p o) z.a _ (reg4 (hs_.a (by omega) (by omega) (by omega) (by omega))) hS hm (hp.r1 o) (fun h => by have := hdp h; cases p <;> simp [qX] at this ⊢)) fun v36 w a hp37 ha => ?_)
  obtain ⟨rfl, hS⟩ := hp37
  refine jY (in_n (jJ (wp_seq (jX [0] (jQ [(0, 6, .bool false)] ha fun a ha => ?_)))))
  refine jY (jJ (wp_ret ?_))
  refine end_tmp (t := 6) (v := .bool false) ha (by kernel_rfl) rfl ?_
  replace hS := hS.pickN 4 [0, 1, 2]
  refine ⟨(zY m f (qX p o) z.a).1, (zY m f (qX p o) z.a).2, o, false, ?_, rfl, hS⟩
  simp [stepS, FS.get, FS.set, recR1, c35]
 refine jV ha rfl (decide_eq_false c35) ?_
 refine wp_seq (jX [0, 1] (jQ [(0, 222, .bool (decide (z.k = 8))), (1, 221, .bool (decide (z.k = 8)))] ha fun a ha => ?_))
 refine jY (jJ ?_)
 by_cases c38 : z.k = 8
 ·
  refine jG ha rfl (decide_eq_true c38) ?_
  refine wp_seq (xH 10 11 hS fun w hS => ?_)
  refine jK (k := 6) [(0, 223, ptr bf 0), (1, 224, ptr bf 0), (2, 225, iv z.a), (3, 226, ptr bf 0), (4, 227, ptr bf 2)] ha (.inr hS) fun a ha => ?_
  refine zQ 5 (.pointer (some ⟨bf, 2 + (z.a : Int).toNat * 1, none⟩)) ha (yV (len := 4) (el := 3) (sz := 1) ha (yU (t := 122) (x := 227) (y := 225) (d := 228)) rfl rfl (by kernel_rfl) (by kernel_rfl) (by have := (reg4 (hs_.a (by omega) (by omega) (by omega) (by omega))); omega) (by have := (reg4 (hs_.a (by omega) (by omega) (by omega) (by omega))); omega)) (.inr hS) fun a ha => ?_
  refine zH 6 (iv (g4 f.r0 f.r1 f.r2 f.r3 z.a)) ha (v_load (cs := [iv f.id, iv f.fn, iv f.r0, iv f.r1, iv f.r2, iv f.r3, .slice t.A t.n t.c, fpv, .bool f.dfr, .bool f.cnt, .bool f.lvg, iv f.en, iv f.pan]) (T := 143) ha (zV (t := 3) (x := 228) (d := 229) (ty := 3)) rfl (by kernel_rfl) (fun _ hw => hw.blk 9 rfl) (by rcases (reg4 (hs_.a (by omega) (by omega) (by omega) (by omega))) with h | h | h | h <;> simp [h, g4])) hS fun a ha => ?_
  refine jK (k := 1) [(7, 230, ptr bf 0), (8, 231, ptr bf 2), (9, 232, ptr bf 3)] ha (.inr hS) fun a ha => ?_
  refine jH 10 (qH bf 3 (iv (g4 f.r0 f.r1 f.r2 f.r3 z.a)) 9 ha hS rfl rfl fun w a hS ha => ?_)
  refine xJ (xX ?_)
  replace ha := ha.as [(6, .bool false)] rfl
  refine jJ (wp_seq (jX [0] (jQ [(0, 6, .bool true)] ha fun a ha => ?_)))
  refine jY (jJ (wp_ret (in_r (xQ ?_))))
  refine end_tmp (t := 6) (v := .bool true) ha (by kernel_rfl) rfl ?_
  replace hS := hS.pickN 12 [1, 2, 3, 4, 5, 6, 7, 8, 0, 9, 10, 11]
  obtain ⟨m_8, hm_8⟩ : ∃ z_ : MS, z_ = (⟨m.made, m.shared, m.depth, m.deepest, m.trace, m.owners, m.calls, m.panics, m.recs, m.places⟩ : MS) := ⟨_, rfl⟩
  replace hS : Sat w0 w ((mch bm pv fuel m_8) :: (SX.blk b1 [iv z.k, iv z.a, iv z.b] 98) :: (FB bf f.id f.fn f.r0 (g4 f.r0 f.r1 f.r2 f.r3 z.a) f.r2 f.r3 t (fpv) f.dfr f.cnt f.lvg f.en f.pan) :: (rQ t f.runs) :: (qV fpv qv (qX p o)) :: Rs) := by rw [hm_8]; exact Sat.shutM (⟨s.tr, s.ow, s.ca, s.pa, s.re, s.us, s.bp⟩ : MSl) (hs) hS
  replace hS := hS.pickN 5 [2, 3, 0, 1, 4]
  obtain ⟨f_10, hf_10⟩ : ∃ z_ : FS, z_ = (⟨f.id, f.fn, f.r0, (g4 f.r0 f.r1 f.r2 f.r3 z.a), f.r2, f.r3, f.runs, f.dfr, f.cnt, f.lvg, f.en, f.pan⟩ : FS) := ⟨_, rfl⟩
  replace hS : Sat w0 w ((frm bf f_10 (fpv)) :: (mch bm pv fuel m_8) :: (SX.blk b1 [iv z.k, iv z.a, iv z.b] 98) :: (qV fpv qv (qX p o)) :: Rs) := by rw [hf_10]; exact Sat.shutF t hS
  replace hS := hS.pickN 4 [1, 0, 3]
  refine ⟨m_8, f_10, o, true, ?_, rfl, hS⟩
  rw [hf_10, hm_8]; simp [stepS, FS.get, FS.set, c38]
 refine jV ha rfl (decide_eq_false c38) ?_
 refine wp_seq (jX [0, 1] (jQ [(0, 234, .bool (decide (z.k = 9))), (1, 233, .bool (decide (z.k = 9)))] ha fun a ha => ?_))
 refine jY (jJ ?_)
 by_cases c39 : z.k = 9
 ·
  refine jG ha rfl (decide_eq_true c39) ?_
  refine wp_seq (jX [0, 1, 2, 3] (jQ [(0, 235, ptr bf 0), (1, 236, ptr bf 0), (2, 237, ptr bf 8)] ha fun a ha => ?_))
  refine jU (d := 238) (b := bf) (j := 8) ha (hS.blk 9 rfl) rfl fun a ha => ?_
  refine jY (jJ ?_)
  rcases Bool.eq_false_or_eq_true f.dfr with c40 | c40
  ·
   refine jG ha rfl c40 ?_;replace hS := hS.pickN 12 [11, 0, 1, 2, 3, 4, 5, 6, 7, 8, 9, 10];obtain ⟨q, hq⟩ := Option.isSome_iff_exists.1 (hdp c40);subst hq;obtain ⟨bq, hbq, hS⟩ := Sat.openPar (q := { q with r1 := o }) hS;subst hbq;obtain ⟨tq, hS⟩ := hS.openF;replace hS : Sat w0 w ((FB bq q.id q.fn q.r0 o q.r2 q.r3 tq (qv) q.dfr q.cnt q.lvg q.en q.pan) :: (rQ tq q.runs) :: (SX.blk b1 [iv z.k, iv z.a, iv z.b] 98) :: (MB bm pv fuel m.made m.shared m.depth m.deepest s.tr s.ow s.ca s.pa s.re s.bp) :: (rE s.tr m.trace) :: (rI s.ow m.owners) :: (rC s.ca m.calls) :: (rP s.pa s.us) :: (jW (yQ s.us)) :: (rV s.re m.recs) :: (yY s.bp m.places) :: (FB bf f.id f.fn f.r0 f.r1 f.r2 f.r3 t (ptr bq 0) f.dfr f.cnt f.lvg f.en f.pan) :: (rQ t f.runs) :: Rs) := hS;refine xH 13 14 hS fun w hS => ?_;refine jK (k := 11) [(0, 239, ptr bf 0), (1, 240, ptr bf 0), (2, 241, ptr bf 7)] ha (.inr hS) fun a ha => ?_;refine qW 3 (d := 242) (b := bf) (j := 7) ha hS (fun _ hw => hw.blk 11 rfl) rfl fun a ha => ?_;refine jK (k := 6) [(4, 243, ptr bf 0), (5, 244, iv z.a), (6, 245, ptr bf 0), (7, 246, ptr bf 2)] ha (.inr hS) fun a ha => ?_;refine zQ 8 (.pointer (some ⟨bf, 2 + (z.a : Int).toNat * 1, none⟩)) ha (yV (len := 4) (el := 3) (sz := 1) ha (yU (t := 122) (x := 246) (y := 244) (d := 247)) rfl rfl (by kernel_rfl) (by kernel_rfl) (by have := (reg4 (hs_.a (by omega) (by omega) (by omega) (by omega))); omega) (by have := (reg4 (hs_.a (by omega) (by omega) (by omega) (by omega))); omega)) (.inr hS) fun a ha => ?_;refine zH 9 (iv (g4 f.r0 f.r1 f.r2 f.r3 z.a)) ha (v_load (cs := [iv f.id, iv f.fn, iv f.r0, iv f.r1, iv f.r2, iv f.r3, .slice t.A t.n t.c, ptr bq 0, .bool f.dfr, .bool f.cnt, .bool f.lvg, iv f.en, iv f.pan]) (T := 143) ha (zV (t := 3) (x := 247) (d := 248) (ty := 3)) rfl (by kernel_rfl) (fun _ hw => hw.blk 11 rfl) (by rcases (reg4 (hs_.a (by omega) (by omega) (by omega) (by omega))) with h | h | h | h <;> simp [h, g4])) hS fun a ha => ?_;refine jK (k := 1) [(10, 249, ptr bq 0), (11, 250, ptr bq 2), (12, 251, ptr bq 3)] ha (.inr hS) fun a ha => ?_;refine jH 13 (qH bq 3 (iv (g4 f.r0 f.r1 f.r2 f.r3 z.a)) 0 ha hS rfl rfl fun w a hS ha => ?_);refine xJ (xX ?_);replace ha := ha.as [(6, .bool false)] rfl;refine in_n (jJ (wp_seq (jX [0] (jQ [(0, 6, .bool false)] ha fun a ha => ?_))));refine jY (jJ (wp_ret ?_));refine end_tmp (t := 6) (v := .bool false) ha (by kernel_rfl) rfl ?_;replace hS := hS.pickN 13 [3, 4, 5, 6, 7, 8, 9, 10, 0, 1, 2, 11, 12];obtain ⟨m_9, hm_9⟩ : ∃ z_ : MS, z_ = (⟨m.made, m.shared, m.depth, m.deepest, m.trace, m.owners, m.calls, m.panics, m.recs, m.places⟩ : MS) := ⟨_, rfl⟩;replace hS : Sat w0 w ((mch bm pv fuel m_9) :: (FB bq q.id q.fn q.r0 (g4 f.r0 f.r1 f.r2 f.r3 z.a) q.r2 q.r3 tq (qv) q.dfr q.cnt q.lvg q.en q.pan) :: (rQ tq q.runs) :: (SX.blk b1 [iv z.k, iv z.a, iv z.b] 98) :: (FB bf f.id f.fn f.r0 f.r1 f.r2 f.r3 t (ptr bq 0) f.dfr f.cnt f.lvg f.en f.pan) :: (rQ t f.runs) :: Rs) := by rw [hm_9]; exact Sat.shutM (⟨s.tr, s.ow, s.ca, s.pa, s.re, s.us, s.bp⟩ : MSl) (hs) hS
   replace hS := hS.pickN 6 [4, 5, 0, 1, 2, 3];obtain ⟨f_11, hf_11⟩ : ∃ z_ : FS, z_ = (⟨f.id, f.fn, f.r0, f.r1, f.r2, f.r3, f.runs, f.dfr, f.cnt, f.lvg, f.en, f.pan⟩ : FS) := ⟨_, rfl⟩;replace hS : Sat w0 w ((frm bf f_11 (ptr bq 0)) :: (mch bm pv fuel m_9) :: (FB bq q.id q.fn q.r0 (g4 f.r0 f.r1 f.r2 f.r3 z.a) q.r2 q.r3 tq (qv) q.dfr q.cnt q.lvg q.en q.pan) :: (rQ tq q.runs) :: (SX.blk b1 [iv z.k, iv z.a, iv z.b] 98) :: Rs) := by rw [hf_11]; exact Sat.shutF t hS
   replace hf_11 : f_11 = f := hf_11;replace hS := hS.pickN 5 [2, 3, 0, 1, 4];obtain ⟨f_12, hf_12⟩ : ∃ z_ : FS, z_ = (⟨q.id, q.fn, q.r0, (g4 f.r0 f.r1 f.r2 f.r3 z.a), q.r2, q.r3, q.runs, q.dfr, q.cnt, q.lvg, q.en, q.pan⟩ : FS) := ⟨_, rfl⟩;replace hS : Sat w0 w ((frm bq f_12 (qv)) :: (frm bf f_11 (ptr bq 0)) :: (mch bm pv fuel m_9) :: (SX.blk b1 [iv z.k, iv z.a, iv z.b] 98) :: Rs) := by rw [hf_12]; exact Sat.shutF tq hS
   have eq1 : f_12 = { q with r1 := (g4 f.r0 f.r1 f.r2 f.r3 z.a) } := hf_12;rw [eq1] at hS;replace hS : Sat w0 w ((qV (.pointer (some ⟨bq, 0, none⟩)) qv (qX (some q) (g4 f.r0 f.r1 f.r2 f.r3 z.a))) :: (frm bf f_11 (ptr bq 0)) :: (mch bm pv fuel m_9) :: (SX.blk b1 [iv z.k, iv z.a, iv z.b] 98) :: Rs) := Sat.shutPar hS;replace hS := hS.pickN 4 [2, 1, 0];refine ⟨m_9, f_11, (g4 f.r0 f.r1 f.r2 f.r3 z.a), false, ?_, rfl, hS⟩;rw [hf_11, hm_9]; simp [stepS, FS.get, FS.set, c39, c40]
  refine jV ha rfl c40 ?_
  refine wp_skip (in_n (jJ (wp_seq (jX [0] (jQ [(0, 6, .bool false)] ha fun a ha => ?_)))))
  refine jY (jJ (wp_ret ?_))
  refine end_tmp (t := 6) (v := .bool false) ha (by kernel_rfl) rfl ?_
  replace hS := hS.pickN 12 [1, 2, 3, 4, 5, 6, 7, 8, 0, 9, 10, 11]
  obtain ⟨m_10, hm_10⟩ : ∃ z_ : MS, z_ = (⟨m.made, m.shared, m.depth, m.deepest, m.trace, m.owners, m.calls, m.panics, m.recs, m.places⟩ : MS) := ⟨_, rfl⟩
  replace hS : Sat w0 w ((mch bm pv fuel m_10) :: (SX.blk b1 [iv z.k, iv z.a, iv z.b] 98) :: (FB bf f.id f.fn f.r0 f.r1 f.r2 f.r3 t (fpv) f.dfr f.cnt f.lvg f.en f.pan) :: (rQ t f.runs) :: (qV fpv qv (qX p o)) :: Rs) := by rw [hm_10]; exact Sat.shutM (⟨s.tr, s.ow, s.ca, s.pa, s.re, s.us, s.bp⟩ : MSl) (hs) hS
  replace hS := hS.pickN 5 [2, 3, 0, 1, 4]
  obtain ⟨f_13, hf_13⟩ : ∃ z_ : FS, z_ = (⟨f.id, f.fn, f.r0, f.r1, f.r2, f.r3, f.runs, f.dfr, f.cnt, f.lvg, f.en, f.pan⟩ : FS) := ⟨_, rfl⟩
  replace hS : Sat w0 w ((frm bf f_13 (fpv)) :: (mch bm pv fuel m_10) :: (SX.blk b1 [iv z.k, iv z.a, iv z.b] 98) :: (qV fpv qv (qX p o)) :: Rs) := by rw [hf_13]; exact Sat.shutF t hS
  replace hf_13 : f_13 = f := hf_13
  replace hS := hS.pickN 4 [1, 0, 3]
  refine ⟨m_10, f_13, o, false, ?_, rfl, hS⟩
  rw [hf_13, hm_10]; simp [stepS, FS.get, FS.set, c39, c40]
 refine jV ha rfl (decide_eq_false c39) ?_
 refine wp_seq (jX [0, 1] (jQ [(0, 253, .bool (decide (z.k = 10))), (1, 252, .bool (decide (z.k = 10)))] ha fun a ha => ?_))
 refine jY (jJ ?_)
 by_cases c41 : z.k = 10
 ·
  refine jG ha rfl (decide_eq_true c41) ?_
  refine wp_seq (jX [0, 1, 2, 3, 4, 5, 6, 7] (jQ [(0, 254, ptr bf 0), (1, 255, ptr bf 0), (2, 256, ptr bf 0), (3, 257, ptr bf 10)] ha fun a ha => ?_))
  refine jZ (qH bf 10 (.bool true) 9 ha hS rfl rfl fun w a hS ha => ?_)
  refine jQ [(5, 258, ptr bf 0), (6, 259, ptr bf 11)] ha fun a ha => ?_
  refine jZ (qH bf 11 (iv 3) 9 ha hS rfl rfl fun w a hS ha => ?_)
  refine jY ?_
  replace ha := ha.as [(6, .bool false)] rfl
  refine jJ (wp_seq (jX [0] (jQ [(0, 6, .bool true)] ha fun a ha => ?_)))
  refine jY (jJ (wp_ret (in_r (xQ ?_))))
  refine end_tmp (t := 6) (v := .bool true) ha (by kernel_rfl) rfl ?_
  replace hS := hS.pickN 12 [1, 2, 3, 4, 5, 6, 7, 8, 0, 9, 10, 11]
  obtain ⟨m_11, hm_11⟩ : ∃ z_ : MS, z_ = (⟨m.made, m.shared, m.depth, m.deepest, m.trace, m.owners, m.calls, m.panics, m.recs, m.places⟩ : MS) := ⟨_, rfl⟩
  replace hS : Sat w0 w ((mch bm pv fuel m_11) :: (SX.blk b1 [iv z.k, iv z.a, iv z.b] 98) :: (FB bf f.id f.fn f.r0 f.r1 f.r2 f.r3 t (fpv) f.dfr f.cnt true 3 f.pan) :: (rQ t f.runs) :: (qV fpv qv (qX p o)) :: Rs) := by rw [hm_11]; exact Sat.shutM (⟨s.tr, s.ow, s.ca, s.pa, s.re, s.us, s.bp⟩ : MSl) (hs) hS
  replace hS := hS.pickN 5 [2, 3, 0, 1, 4]
  obtain ⟨f_14, hf_14⟩ : ∃ z_ : FS, z_ = (⟨f.id, f.fn, f.r0, f.r1, f.r2, f.r3, f.runs, f.dfr, f.cnt, true, 3, f.pan⟩ : FS) := ⟨_, rfl⟩
  replace hS : Sat w0 w ((frm bf f_14 (fpv)) :: (mch bm pv fuel m_11) :: (SX.blk b1 [iv z.k, iv z.a, iv z.b] 98) :: (qV fpv qv (qX p o)) :: Rs) := by rw [hf_14]; exact Sat.shutF t hS
  replace hS := hS.pickN 4 [1, 0, 3]
  refine ⟨m_11, f_14, o, true, ?_, rfl, hS⟩
  rw [hf_14, hm_11]; simp [stepS, FS.get, FS.set, c41]
 refine jV ha rfl (decide_eq_false c41) ?_
 refine wp_seq (jX [0, 1] (jQ [(0, 261, .bool (decide (z.k = 12))), (1, 260, .bool (decide (z.k = 12)))] ha fun a ha => ?_))
 refine jY (jJ ?_)
 by_cases c42 : z.k = 12
 ·
  refine jG ha rfl (decide_eq_true c42) ?_
  refine jX [0, 1, 2, 3, 4, 5, 6, 7, 8, 9] (jQ [(0, 262, ptr bm 0), (1, 263, ptr bf 0), (2, 264, iv z.a), (3, 265, ptr bf 0), (4, 266, ptr bf 2)] ha fun a ha => ?_)
  refine xU (.pointer (some ⟨bf, 2 + (z.a : Int).toNat * 1, none⟩)) ha (yV (len := 4) (el := 3) (sz := 1) ha (yU (t := 122) (x := 266) (y := 264) (d := 267)) rfl rfl (by kernel_rfl) (by kernel_rfl) (by have := (reg4 (hs_.a (by omega) (by omega) (by omega) (by omega))); omega) (by have := (reg4 (hs_.a (by omega) (by omega) (by omega) (by omega))); omega)) fun a ha => ?_
  refine xU (iv (g4 f.r0 f.r1 f.r2 f.r3 z.a)) ha (v_load (cs := [iv f.id, iv f.fn, iv f.r0, iv f.r1, iv f.r2, iv f.r3, .slice t.A t.n t.c, fpv, .bool f.dfr, .bool f.cnt, .bool f.lvg, iv f.en, iv f.pan]) (T := 143) ha (zV (t := 3) (x := 267) (d := 268) (ty := 3)) rfl (by kernel_rfl) (fun _ hw => by rw [hw]; exact hS.blk 9 rfl) (by rcases (reg4 (hs_.a (by omega) (by omega) (by omega) (by omega))) with h | h | h | h <;> simp [h, g4])) fun a ha => ?_
  refine jQ [(7, 269, ptr bm 0), (8, 270, ptr bm 3)] ha fun a ha => ?_
  refine jZ (qH bm 3 (iv (g4 f.r0 f.r1 f.r2 f.r3 z.a)) 1 ha hS rfl rfl fun w a hS ha => ?_)
  refine jY ?_
  replace ha := ha.as [(6, .bool false)] rfl
  refine in_n (jJ (wp_seq (jX [0] (jQ [(0, 6, .bool false)] ha fun a ha => ?_))))
  refine jY (jJ (wp_ret ?_))
  refine end_tmp (t := 6) (v := .bool false) ha (by kernel_rfl) rfl ?_
  replace hS := hS.pickN 12 [1, 2, 3, 4, 5, 6, 7, 8, 0, 9, 10, 11]
  obtain ⟨m_12, hm_12⟩ : ∃ z_ : MS, z_ = (⟨m.made, (g4 f.r0 f.r1 f.r2 f.r3 z.a), m.depth, m.deepest, m.trace, m.owners, m.calls, m.panics, m.recs, m.places⟩ : MS) := ⟨_, rfl⟩
  replace hS : Sat w0 w ((mch bm pv fuel m_12) :: (SX.blk b1 [iv z.k, iv z.a, iv z.b] 98) :: (FB bf f.id f.fn f.r0 f.r1 f.r2 f.r3 t (fpv) f.dfr f.cnt f.lvg f.en f.pan) :: (rQ t f.runs) :: (qV fpv qv (qX p o)) :: Rs) := by rw [hm_12]; exact Sat.shutM (⟨s.tr, s.ow, s.ca, s.pa, s.re, s.us, s.bp⟩ : MSl) (hs) hS
  replace hS := hS.pickN 5 [2, 3, 0, 1, 4]
  obtain ⟨f_15, hf_15⟩ : ∃ z_ : FS, z_ = (⟨f.id, f.fn, f.r0, f.r1, f.r2, f.r3, f.runs, f.dfr, f.cnt, f.lvg, f.en, f.pan⟩ : FS) := ⟨_, rfl⟩
  replace hS : Sat w0 w ((frm bf f_15 (fpv)) :: (mch bm pv fuel m_12) :: (SX.blk b1 [iv z.k, iv z.a, iv z.b] 98) :: (qV fpv qv (qX p o)) :: Rs) := by rw [hf_15]; exact Sat.shutF t hS
  replace hf_15 : f_15 = f := hf_15
  replace hS := hS.pickN 4 [1, 0, 3]
  refine ⟨m_12, f_15, o, false, ?_, rfl, hS⟩
  rw [hf_15, hm_12]; simp [stepS, FS.get, FS.set, c42]
 refine jV ha rfl (decide_eq_false c42) ?_
 refine wp_seq (jX [0, 1] (jQ [(0, 272, .bool (decide (z.k = 13))), (1, 271, .bool (decide (z.k = 13)))] ha fun a ha => ?_))
 refine jY (jJ ?_)
 by_cases c43 : z.k = 13
 ·
  refine jG ha rfl (decide_eq_true c43) ?_
  refine xH 9 10 hS fun w hS => ?_
  refine jK (k := 5) [(0, 273, ptr bf 0), (1, 274, iv z.a), (2, 275, ptr bm 0), (3, 276, ptr bm 0), (4, 277, ptr bm 3)] ha (.inr hS) fun a ha => ?_
  refine qW 5 (d := 278) (b := bm) (j := 3) ha hS (fun _ hw => hw.blk 1 rfl) rfl fun a ha => ?_
  refine jK (k := 2) [(6, 279, ptr bf 0), (7, 280, ptr bf 2)] ha (.inr hS) fun a ha => ?_
  refine zQ 8 (.pointer (some ⟨bf, 2 + (z.a : Int).toNat * 1, none⟩)) ha (yV (len := 4) (el := 3) (sz := 1) ha (yU (t := 122) (x := 280) (y := 274) (d := 281)) rfl rfl (by kernel_rfl) (by kernel_rfl) (by have := (reg4 (hs_.a (by omega) (by omega) (by omega) (by omega))); omega) (by have := (reg4 (hs_.a (by omega) (by omega) (by omega) (by omega))); omega)) (.inr hS) fun a ha => ?_
  refine jH 9 (o_store (cs' := [iv f.id, iv f.fn, iv (u4 f.r0 m.shared 0 z.a), iv (u4 f.r1 m.shared 1 z.a), iv (u4 f.r2 m.shared 2 z.a), iv (u4 f.r3 m.shared 3 z.a), .slice t.A t.n t.c, fpv, .bool f.dfr, .bool f.cnt, .bool f.lvg, iv f.en, iv f.pan]) 9 ha (qU (t := 3) (x := 281) (y := 278)) rfl rfl rfl (by kernel_rfl) hS rfl (by have := (reg4 (hs_.a (by omega) (by omega) (by omega) (by omega))); simp; omega) (by rcases (reg4 (hs_.a (by omega) (by omega) (by omega) (by omega))) with h | h | h | h <;> simp [h, u4]) (fun w a hS ha => ?_))
  refine xJ (xX ?_)
  replace ha := ha.as [(6, .bool false)] rfl
  refine in_n (jJ (wp_seq (jX [0] (jQ [(0, 6, .bool false)] ha fun a ha => ?_))))
  refine jY (jJ (wp_ret ?_))
  refine end_tmp (t := 6) (v := .bool false) ha (by kernel_rfl) rfl ?_
  replace hS := hS.pickN 12 [1, 2, 3, 4, 5, 6, 7, 8, 0, 9, 10, 11]
  obtain ⟨m_13, hm_13⟩ : ∃ z_ : MS, z_ = (⟨m.made, m.shared, m.depth, m.deepest, m.trace, m.owners, m.calls, m.panics, m.recs, m.places⟩ : MS) := ⟨_, rfl⟩
  replace hS : Sat w0 w ((mch bm pv fuel m_13) :: (SX.blk b1 [iv z.k, iv z.a, iv z.b] 98) :: (FB bf f.id f.fn (u4 f.r0 m.shared 0 z.a) (u4 f.r1 m.shared 1 z.a) (u4 f.r2 m.shared 2 z.a) (u4 f.r3 m.shared 3 z.a) t (fpv) f.dfr f.cnt f.lvg f.en f.pan) :: (rQ t f.runs) :: (qV fpv qv (qX p o)) :: Rs) := by rw [hm_13]; exact Sat.shutM (⟨s.tr, s.ow, s.ca, s.pa, s.re, s.us, s.bp⟩ : MSl) (hs) hS
  replace hS := hS.pickN 5 [2, 3, 0, 1, 4]
  obtain ⟨f_16, hf_16⟩ : ∃ z_ : FS, z_ = (⟨f.id, f.fn, (u4 f.r0 m.shared 0 z.a), (u4 f.r1 m.shared 1 z.a), (u4 f.r2 m.shared 2 z.a), (u4 f.r3 m.shared 3 z.a), f.runs, f.dfr, f.cnt, f.lvg, f.en, f.pan⟩ : FS) := ⟨_, rfl⟩
  replace hS : Sat w0 w ((frm bf f_16 (fpv)) :: (mch bm pv fuel m_13) :: (SX.blk b1 [iv z.k, iv z.a, iv z.b] 98) :: (qV fpv qv (qX p o)) :: Rs) := by rw [hf_16]; exact Sat.shutF t hS
  replace hS := hS.pickN 4 [1, 0, 3]
  refine ⟨m_13, f_16, o, false, ?_, rfl, hS⟩
  rw [hf_16, hm_13]; simp [stepS, FS.get, FS.set, c43]
 refine jV ha rfl (decide_eq_false c43) ?_
 refine wp_skip (in_n (jJ (wp_seq (jX [0] (jQ [(0, 6, .bool false)] ha fun a ha => ?_)))))
 refine jY ?_
 replace ha := ha.as [(6, .bool false)] rfl
 refine jJ (wp_ret ?_)
 refine end_tmp (t := 6) (v := .bool false) ha (by kernel_rfl) rfl ?_
 replace hS := hS.pickN 12 [1, 2, 3, 4, 5, 6, 7, 8, 0, 9, 10, 11]
 obtain ⟨m_14, hm_14⟩ : ∃ z_ : MS, z_ = (⟨m.made, m.shared, m.depth, m.deepest, m.trace, m.owners, m.calls, m.panics, m.recs, m.places⟩ : MS) := ⟨_, rfl⟩
 replace hS : Sat w0 w ((mch bm pv fuel m_14) :: (SX.blk b1 [iv z.k, iv z.a, iv z.b] 98) :: (FB bf f.id f.fn f.r0 f.r1 f.r2 f.r3 t (fpv) f.dfr f.cnt f.lvg f.en f.pan) :: (rQ t f.runs) :: (qV fpv qv (qX p o)) :: Rs) := by rw [hm_14]; exact Sat.shutM (⟨s.tr, s.ow, s.ca, s.pa, s.re, s.us, s.bp⟩ : MSl) (hs) hS
 replace hS := hS.pickN 5 [2, 3, 0, 1, 4]
 obtain ⟨f_17, hf_17⟩ : ∃ z_ : FS, z_ = (⟨f.id, f.fn, f.r0, f.r1, f.r2, f.r3, f.runs, f.dfr, f.cnt, f.lvg, f.en, f.pan⟩ : FS) := ⟨_, rfl⟩
 replace hS : Sat w0 w ((frm bf f_17 (fpv)) :: (mch bm pv fuel m_14) :: (SX.blk b1 [iv z.k, iv z.a, iv z.b] 98) :: (qV fpv qv (qX p o)) :: Rs) := by rw [hf_17]; exact Sat.shutF t hS
 replace hf_17 : f_17 = f := hf_17
 replace hS := hS.pickN 4 [1, 0, 3]
 refine ⟨m_14, f_17, o, false, ?_, rfl, hS⟩
 rw [hf_17, hm_14]; simp [stepS, FS.get, FS.set, c3, c4, c5, c8, c15, c25, c35, c38, c39, c41, c42, c43]
theorem laidOut : laidOutB Try.prog = true := by kernel_rfl
theorem placesLaw : WideMaps.KeyLaw Try.prog 61 := deep_law_laid laidOut (m := 2) (by omega) (of_decide_eq_true (by kernel_rfl)) (by kernel_rfl) (by kernel_rfl)
theorem placesKey (p : Int × Int) (h : small p) : ∃ l, keyOf Try.prog 61 (keyV p) = some l := keyOf2 (D := Try.prog.types.size - 1) (e := 3) (by kernel_rfl) (by kernel_rfl) (by kernel_rfl) (by kernel_rfl) (by kernel_rfl) (by kernel_rfl) p h
theorem code107 : Try.f107.body = some (Code.seq (cr Try.f107 0 true) (Code.seq (cr Try.f107 1 false) (Code.block 0 (Code.loop (Code.seq (Code.seq (cr Try.f107 2 false) (Code.cond (Operand.tmp 21) Code.skip (Code.exit 0))) (Code.block 1 (Code.seq (Code.seq (cr Try.f107 3 true) (Code.cond (Operand.tmp 30) (cr Try.f107 4 false) Code.skip)) (Code.seq (cr Try.f107 5 false) (Code.seq (cr Try.f107 6 true) (Code.seq (cr Try.f107 7 false) (Code.seq (cr Try.f107 8 false) (Code.seq (Code.seq (cr Try.f107 9 false) (Code.cond (Operand.tmp 58) (Code.seq (Code.seq (cr Try.f107 10 true) (Code.cond (Operand.tmp 66) (cr Try.f107 11 false) Code.skip)) (Code.exit 1)) Code.skip)) (Code.seq (cr Try.f107 12 false) (Code.cond (Operand.tmp 72) Code.ret Code.skip)))))))))))))) := by kernel_rfl
theorem body_calls (P : List (List Stp)) (hP : ProgOk P) (d : Nat) (fuel : Int) (bm : Nat) (pv : Sl) (sbs : List Sl) (IH : CallC P fuel bm pv sbs d) (w0 w : World) (Rs : List Asn) (bf : Nat) (m : MS) (f : FS) (fpv qv : Value) (p : Option FS) (o : Int) (x : Nat) (hS : Sat w0 w (mch bm pv fuel m :: frm bf f fpv :: qV fpv qv (qX p o) :: Rs)) (hm : OkM fuel m (2 * f.runs.length + x)) (hf : OkF P.length m f) (hdep : m.depth + d = 8) (hd0 : 0 ≤ m.depth) (hdp : f.dfr = true → p.isSome = true) (hp : OkP m p) (hPr : Keeps w0 Rs (fun w => RdProg w pv sbs P)) :
    Calls Try.prog 107 #[.pointer (some ⟨bm, 0, none⟩), .pointer (some ⟨bf, 0, none⟩)] w (bodyPost_ w0 bm bf pv fuel Rs fpv qv p (bodyS fuel (callS P fuel d) (P.getD f.fn.toNat []) p (fuel - m.made).toNat.succ m f o 0)) := by
  obtain ⟨body, hbody⟩ := get_int P hf.fn0 hf.fn1
  obtain ⟨sb, hbn, hbA, hsb⟩ := RdProg.body hPr (Sat.rest [mch bm pv fuel m, frm bf f fpv, qV fpv qv (qX p o)] hS) hbody
  have hpn := (hPr w (Sat.rest [mch bm pv fuel m, frm bf f fpv, qV fpv qv (qX p o)] hS)).len
  have hpA := (hPr w (Sat.rest [mch bm pv fuel m, frm bf f fpv, qV fpv qv (qX p o)] hS)).A (by have := hP.some_; omega)
  have hPb : P.getD f.fn.toNat [] = body := by rw [List.getD_eq_getElem?_getD, hbody]; rfl
  have hbm := List.mem_of_getElem? hbody
  have hsteps := hP.steps body hbm
  have hb8 := hP.short body hbm
  rw [hPb]
  generalize hR : bodyS fuel (callS P fuel d) body p (fuel - m.made).toNat.succ m f o 0 = R_
  obtain ⟨s, t, hs, hS⟩ := hS.openMF
  replace hS : Sat w0 w ((MB bm pv fuel m.made m.shared m.depth m.deepest s.tr s.ow s.ca s.pa s.re s.bp) :: (rE s.tr m.trace) :: (rI s.ow m.owners) :: (rC s.ca m.calls) :: (rP s.pa s.us) :: (jW (yQ s.us)) :: (rV s.re m.recs) :: (yY s.bp m.places) :: (FB bf f.id f.fn f.r0 f.r1 f.r2 f.r3 t (fpv) f.dfr f.cnt f.lvg f.en f.pan) :: (rQ t f.runs) :: (qV fpv qv (qX p o)) :: Rs) := hS
  refine enter (n := 73) Try.func107 code107 (by kernel_rfl) (Nat.le_of_ble_eq_true rfl) (fun a ha => ?_)
  replace ha : Has 73 [(0, ptr bm 0), (1, ptr bf 0)] a := ha
  refine wp_seq (xH 12 12 hS fun w hS => ?_)
  refine jK (k := 8) [(0, 7, ptr bm 0), (1, 8, ptr bm 0), (2, 9, ptr bm 0), (3, 10, ptr bm 0)] ha (.inr hS) fun a ha => ?_
  refine qW 4 (d := 11) (b := bm) (j := 0) ha hS (fun _ hw => hw.blk 0 rfl) rfl fun a ha => ?_
  refine jK (k := 4) [(5, 12, ptr bf 0), (6, 13, ptr bf 0), (7, 14, ptr bf 1)] ha (.inr hS) fun a ha => ?_
  refine qW 8 (d := 15) (b := bf) (j := 1) ha hS (fun _ hw => hw.blk 8 rfl) rfl fun a ha => ?_
  refine zQ 9 (.pointer (some ⟨bk pv, of_ pv + f.fn.toNat * 1, none⟩)) ha (kK (s := pv) (el := 95) (sz := 1) (j := f.fn.toNat) ha (yU (t := 38) (x := 11) (y := 15) (d := 16)) rfl rfl (by kernel_rfl) (by kernel_rfl) hpA (Int.toNat_of_nonneg hf.fn0).symm (by rw [hpn]; have := hf.fn1; have := hf.fn0; omega)) (.inr hS) fun a ha => ?_
  refine zH 10 (.slice sb.A sb.n sb.c) ha (zK ha (zV (t := 95) (x := 16) (d := 17) (ty := 95)) rfl (by kernel_rfl) (fun w' hw => by rw [Nat.mul_one]; exact ((hsb.more [_, _, _, _, _, _, _, _, _, _, _]) _ hw).1)) hS fun a ha => ?_
  refine jK (k := 0) [(11, 4, .slice sb.A sb.n sb.c)] ha (.inr hS) fun a ha => ?_
  refine xX (jJ (wp_seq (jX [0] (jQ [(0, 5, iv 0)] ha fun a ha => ?_))))
  refine jY (jJ (wp_block ?_))
  replace hS : Sat w0 w ((MB bm pv fuel m.made m.shared m.depth m.deepest s.tr s.ow s.ca s.pa s.re s.bp) :: (rE s.tr m.trace) :: (rI s.ow m.owners) :: (rC s.ca m.calls) :: (rP s.pa s.us) :: (jW (yQ s.us)) :: (rV s.re m.recs) :: (yY s.bp m.places) :: (FB bf f.id f.fn f.r0 f.r1 f.r2 f.r3 t (fpv) f.dfr f.cnt f.lvg f.en f.pan) :: (rQ t f.runs) :: (qV fpv qv (qX p o)) :: Rs) := hS
  obtain ⟨m_1, hm_1⟩ : ∃ z_ : MS, z_ = (⟨m.made, m.shared, m.depth, m.deepest, m.trace, m.owners, m.calls, m.panics, m.recs, m.places⟩ : MS) := ⟨_, rfl⟩
  replace hS : Sat w0 w ((mch bm pv fuel m_1) :: (FB bf f.id f.fn f.r0 f.r1 f.r2 f.r3 t (fpv) f.dfr f.cnt f.lvg f.en f.pan) :: (rQ t f.runs) :: (qV fpv qv (qX p o)) :: Rs) := by rw [hm_1]; exact Sat.shutM (⟨s.tr, s.ow, s.ca, s.pa, s.re, s.us, s.bp⟩ : MSl) (hs) hS
  replace hS := hS.pickN 4 [1, 2, 0, 3]
  obtain ⟨f_1, hf_1⟩ : ∃ z_ : FS, z_ = (⟨f.id, f.fn, f.r0, f.r1, f.r2, f.r3, f.runs, f.dfr, f.cnt, f.lvg, f.en, f.pan⟩ : FS) := ⟨_, rfl⟩
  replace hS : Sat w0 w ((frm bf f_1 (fpv)) :: (mch bm pv fuel m_1) :: (qV fpv qv (qX p o)) :: Rs) := by rw [hf_1]; exact Sat.shutF t hS
  have e1 : m_1 = m := hm_1
  have e2 : f_1 = f := hf_1
  replace hS := hS.pickN 3 [1, 0, 2]
  replace hS : Sat w0 w ((mch bm pv fuel m) :: (frm bf f fpv) :: (qV fpv qv (qX p o)) :: Rs) := by rw [e1, e2] at hS; exact hS
  refine wp_loop_ghost (fun n_ a_ w_ => ∃ (k : Nat) (m1 : MS) (f1 : FS) (o1 : Int) (at_ : Nat), n_ = (1 + k) ∧ (bodyS fuel (callS P fuel d) body p k m1 f1 o1 at_ = R_) ∧ ((fuel - m1.made).toNat < k) ∧ (OkM fuel m1 (2 * f1.runs.length + x)) ∧ (OkF P.length m1 f1) ∧ (Grew m m1) ∧ (f1.fn = f.fn) ∧ (f1.dfr = f.dfr) ∧ (at_ ≤ 8) ∧ Has 73 [(0, ptr bm 0), (1, ptr bf 0), (4, .slice sb.A sb.n sb.c), (5, iv (at_ : Int))] a_ ∧ Sat w0 w_ ((mch bm pv fuel m1) :: (frm bf f1 fpv) :: (qV fpv qv (qX p o1)) :: Rs)) _ ⟨_, m, f, o, 0, rfl, hR, Nat.lt_succ_self _, hm, hf, Grew.refl _, rfl, rfl, by omega, ha.keeps [0, 1, 4, 5] _ rfl, hS⟩ ?_
  rintro n_ a w ⟨k, m1, f1, o1, at_, rfl, hR, hk, hok, hof, hgr, hfn, hfd, hat, ha, hS⟩
  obtain ⟨k, rfl⟩ : ∃ k', k = k' + 1 := ⟨k - 1, by omega⟩
  obtain ⟨s, t, hs, hS⟩ := Sat.openMF hS
  replace hS : Sat w0 w ((MB bm pv fuel m1.made m1.shared m1.depth m1.deepest s.tr s.ow s.ca s.pa s.re s.bp) :: (rE s.tr m1.trace) :: (rI s.ow m1.owners) :: (rC s.ca m1.calls) :: (rP s.pa s.us) :: (jW (yQ s.us)) :: (rV s.re m1.recs) :: (yY s.bp m1.places) :: (FB bf f1.id f1.fn f1.r0 f1.r1 f1.r2 f1.r3 t (fpv) f1.dfr f1.cnt f1.lvg f1.en f1.pan) :: (rQ t f1.runs) :: (qV fpv qv (qX p o1)) :: Rs) := hS
  have hb0 := hok.made0
  have hb1 := hok.made1
  have hb2 := hok.fuel1
  refine wp_seq (wp_seq (jX [0, 1, 2, 3] (jQ [(0, 18, iv (at_ : Int)), (1, 19, .slice sb.A sb.n sb.c), (2, 20, iv (sb.n : Int)), (3, 21, .bool (decide ((at_ : Int) < (sb.n : Int))))] ha fun a ha => ?_)))
  refine jY (jJ ?_)
  by_cases c1 : (at_ : Int) < (sb.n : Int)
  ·
    have hlt : at_ < body.length := by have := c1; omega
    obtain ⟨z, hz⟩ : ∃ z, body[at_]? = some z := ⟨_, List.getElem?_eq_getElem hlt⟩;refine jG ha rfl (decide_eq_true c1) ?_;refine wp_skip (jJ (wp_block (wp_seq (wp_seq (xH 9 9 hS fun w hS => ?_)))));refine jK (k := 6) [(0, 22, ptr bm 0), (1, 23, ptr bm 0), (2, 24, ptr bm 2)] ha (.inr hS) fun a ha => ?_;refine qW 3 (d := 25) (b := bm) (j := 2) ha hS (fun _ hw => hw.blk 0 rfl) rfl fun a ha => ?_;refine jK (k := 2) [(4, 26, ptr bm 0), (5, 27, ptr bm 0), (6, 28, ptr bm 1)] ha (.inr hS) fun a ha => ?_;refine qW 7 (d := 29) (b := bm) (j := 1) ha hS (fun _ hw => hw.blk 0 rfl) rfl fun a ha => ?_;refine jK (k := 0) [(8, 30, .bool (decide (m1.made = fuel)))] ha (.inr hS) fun a ha => ?_;refine xX (jJ ?_)
    by_cases c2 : m1.made = fuel
    ·
      refine jG ha rfl (decide_eq_true c2) ?_;refine jX [0, 1, 2] (jQ [(0, 31, .agg #[]), (1, 32, .iface 161 (.agg #[]))] ha fun a ha => ?_);refine jZ (o_panic ha (zW (op := (Op.panic (Operand.tmp 32))) (ty := 0)) rfl (then_p (in_p (then_p (in_p (?_))))));replace hS : Sat w0 w ((MB bm pv fuel m1.made m1.shared m1.depth m1.deepest s.tr s.ow s.ca s.pa s.re s.bp) :: (rE s.tr m1.trace) :: (rI s.ow m1.owners) :: (rC s.ca m1.calls) :: (rP s.pa s.us) :: (jW (yQ s.us)) :: (rV s.re m1.recs) :: (yY s.bp m1.places) :: (FB bf f1.id f1.fn f1.r0 f1.r1 f1.r2 f1.r3 t (fpv) f1.dfr f1.cnt f1.lvg f1.en f1.pan) :: (rQ t f1.runs) :: (qV fpv qv (qX p o1)) :: Rs) := hS;obtain ⟨m_2, hm_2⟩ : ∃ z_ : MS, z_ = (⟨m1.made, m1.shared, m1.depth, m1.deepest, m1.trace, m1.owners, m1.calls, m1.panics, m1.recs, m1.places⟩ : MS) := ⟨_, rfl⟩;replace hS : Sat w0 w ((mch bm pv fuel m_2) :: (FB bf f1.id f1.fn f1.r0 f1.r1 f1.r2 f1.r3 t (fpv) f1.dfr f1.cnt f1.lvg f1.en f1.pan) :: (rQ t f1.runs) :: (qV fpv qv (qX p o1)) :: Rs) := by rw [hm_2]; exact Sat.shutM (⟨s.tr, s.ow, s.ca, s.pa, s.re, s.us, s.bp⟩ : MSl) (hs) hS
      refine ⟨ha.defers, m1, ?_, rfl, ?_⟩
      · rw [← hR]; simp [bodyS, hz, c2]
      · have e1 : m_2 = m1 := hm_2
        rw [e1] at hS;exact hS.pickR (l := [_, FB bf f1.id f1.fn f1.r0 f1.r1 f1.r2 f1.r3 t (fpv) f1.dfr f1.cnt f1.lvg f1.en f1.pan, rQ t f1.runs, qV fpv qv (qX p o1)]) [0] (by decide) [_] rfl
    refine jV ha rfl (decide_eq_false c2) ?_;refine wp_skip (jJ (wp_seq (jX [0, 1, 2, 3, 4, 5, 6, 7] (jQ [(0, 33, ptr bm 0), (1, 34, ptr bm 0), (2, 35, ptr bm 2)] ha fun a ha => ?_))));refine jU (d := 36) (b := bm) (j := 2) ha (hS.blk 0 rfl) rfl fun a ha => ?_;refine zJ 37 (m1.made + 1) ha fun a ha => ?_;refine jQ [(5, 38, ptr bm 0), (6, 39, ptr bm 2)] ha fun a ha => ?_;refine jZ (qH bm 2 (iv (m1.made + 1)) 0 ha hS rfl rfl fun w a hS ha => ?_);refine jY (jJ (wp_seq (xH 10 11 hS fun w hS => ?_)));refine jK (k := 8) [(0, 40, ptr bm 0), (1, 41, ptr bm 0), (2, 42, ptr bm 11)] ha (.inr hS) fun a ha => ?_;refine qW 3 (d := 43) (b := bm) (j := 11) ha hS (fun _ hw => hw.blk 0 rfl) rfl fun a ha => ?_;refine jK (k := 4) [(4, 44, ptr bf 0), (5, 45, ptr bf 0), (6, 46, ptr bf 1)] ha (.inr hS) fun a ha => ?_;refine qW 7 (d := 47) (b := bf) (j := 1) ha hS (fun _ hw => hw.blk 8 rfl) rfl fun a ha => ?_;refine jK (k := 1) [(8, 48, iv (at_ : Int)), (9, 49, .agg #[iv f1.fn, iv (at_ : Int)])] ha (.inr hS) fun a ha => ?_;refine jH 10 (o_mapSet (kt := 61) (vt := 4) (q := (f1.fn, (at_ : Int))) 7 ha (zW (op := (Op.mapUpdate 89 (Operand.tmp 43) (Operand.tmp 49) (Operand.const (Value.bool true)))) (ty := 0)) rfl rfl rfl placesLaw (by kernel_rfl) placesKey hS rfl (by have := hof.fn0; have := hof.fn1; have := hP.few; exact ⟨⟨by simp only []; omega, by simp only []; omega⟩, by simp only []; omega, by simp only []; omega⟩) (fun w a (hS : Sat w0 w ((MB bm pv fuel (m1.made + 1) m1.shared m1.depth m1.deepest s.tr s.ow s.ca s.pa s.re s.bp) :: (rE s.tr m1.trace) :: (rI s.ow m1.owners) :: (rC s.ca m1.calls) :: (rP s.pa s.us) :: (jW (yQ s.us)) :: (rV s.re m1.recs) :: (yY s.bp (m1.places ++ [(f1.fn, (at_ : Int))])) :: (FB bf f1.id f1.fn f1.r0 f1.r1 f1.r2 f1.r3 t (fpv) f1.dfr f1.cnt f1.lvg f1.en f1.pan) :: (rQ t f1.runs) :: (qV fpv qv (qX p o1)) :: Rs)) ha => ?_));refine xJ (xX (jJ (wp_seq (jX [0, 1, 2, 3, 4, 5] (jQ [(0, 50, .slice sb.A sb.n sb.c), (1, 51, iv (at_ : Int))] ha fun a ha => ?_)))));refine xU (.pointer (some ⟨bk sb, of_ sb + at_ * 3, none⟩)) ha (kX (s := sb) (el := 98) (sz := 3) (j := at_) ha (yU (t := 95) (x := 50) (y := 51) (d := 52)) rfl rfl (by kernel_rfl) (by kernel_rfl) (hbA (by omega)) (by rw [hbn]; exact hlt)) fun a ha => ?_;refine xU (.agg #[iv z.k, iv z.a, iv z.b]) ha (v_loadL ha (zV (t := 98) (x := 52) (d := 53) (ty := 98)) rfl (fun w' hw => by rw [hw]; exact ((hsb.more [_, _, _, _, _, _, _, _, _, _, _]) _ hS).2.load hz)) fun a ha => ?_;refine jZ (qJ 6 [iv 0, iv 0, iv 0] 98 (ptr · 0) ha hS fun b3 w a hb4 hS ha => ?_);refine jZ (o_sa 0 ha (qU (t := 98) (x := 6) (y := 53)) hS fun w a hS ha => ?_);refine jY (jJ (wp_seq (jX [0, 1, 2] (jQ [(0, 54, iv (at_ : Int))] ha fun a ha => ?_))));refine zJ 55 ((at_ : Int) + 1) ha fun a ha => ?_;refine jQ [(2, 5, iv ((at_ : Int) + 1))] ha fun a ha => ?_;refine jY (jJ (wp_seq (wp_seq (jX [0, 1, 2] (jQ [(0, 56, ptr b3 0)] ha fun a ha => ?_)))));refine jU (d := 57) (b := b3) (j := 0) ha (hS.blk 0 rfl) rfl fun a ha => ?_;refine jQ [(2, 58, .bool (decide (z.k = 11)))] ha fun a ha => ?_
    refine jY (jJ ?_)
    by_cases c5 : z.k = 11
    ·
      refine jG ha rfl (decide_eq_true c5) ?_;refine wp_seq (wp_seq (xH 8 8 hS fun w hS => ?_));refine jK (k := 6) [(0, 59, ptr bf 0), (1, 60, ptr b3 2)] ha (.inr hS) fun a ha => ?_;refine qW 2 (d := 61) (b := b3) (j := 2) ha hS (fun _ hw => hw.blk 0 rfl) rfl fun a ha => ?_;refine jK (k := 3) [(3, 62, ptr bf 0), (4, 63, ptr bf 2)] ha (.inr hS) fun a ha => ?_;refine zQ 5 (.pointer (some ⟨bf, 2 + (z.b : Int).toNat * 1, none⟩)) ha (yV (len := 4) (el := 3) (sz := 1) ha (yU (t := 122) (x := 63) (y := 61) (d := 64)) rfl rfl (by kernel_rfl) (by kernel_rfl) (by have := (reg4 ((hsteps z (List.mem_of_getElem? hz)).b (by omega))); omega) (by have := (reg4 ((hsteps z (List.mem_of_getElem? hz)).b (by omega))); omega)) (.inr hS) fun a ha => ?_;refine zH 6 (iv (g4 f1.r0 f1.r1 f1.r2 f1.r3 z.b)) ha (v_load (cs := [iv f1.id, iv f1.fn, iv f1.r0, iv f1.r1, iv f1.r2, iv f1.r3, .slice t.A t.n t.c, fpv, .bool f1.dfr, .bool f1.cnt, .bool f1.lvg, iv f1.en, iv f1.pan]) (T := 143) ha (zV (t := 3) (x := 64) (d := 65) (ty := 3)) rfl (by kernel_rfl) (fun _ hw => hw.blk 9 rfl) (by rcases (reg4 ((hsteps z (List.mem_of_getElem? hz)).b (by omega))) with h | h | h | h <;> simp [h, g4])) hS fun a ha => ?_;refine jK (k := 0) [(7, 66, .bool (decide ((g4 f1.r0 f1.r1 f1.r2 f1.r3 z.b) > 0)))] ha (.inr hS) fun a ha => ?_;refine xX (jJ ?_)
      by_cases c6 : (g4 f1.r0 f1.r1 f1.r2 f1.r3 z.b) > 0
      ·
        refine jG ha rfl (decide_eq_true c6) ?_;refine jX [0, 1, 2] (jQ [(0, 67, ptr b3 1)] ha fun a ha => ?_);refine jU (d := 68) (b := b3) (j := 1) ha (hS.blk 0 rfl) rfl fun a ha => ?_;refine jQ [(2, 5, iv z.a)] ha fun a ha => ?_;refine jY (jJ (wp_exit (yX (in_x (jJ ?_)))));replace hS := hS.pickN 12 [1, 2, 3, 4, 5, 6, 7, 8, 0, 9, 10, 11];obtain ⟨m_3, hm_3⟩ : ∃ z_ : MS, z_ = (⟨(m1.made + 1), m1.shared, m1.depth, m1.deepest, m1.trace, m1.owners, m1.calls, m1.panics, m1.recs, (m1.places ++ [(f1.fn, (at_ : Int))])⟩ : MS) := ⟨_, rfl⟩;replace hS : Sat w0 w ((mch bm pv fuel m_3) :: (SX.blk b3 [iv z.k, iv z.a, iv z.b] 98) :: (FB bf f1.id f1.fn f1.r0 f1.r1 f1.r2 f1.r3 t (fpv) f1.dfr f1.cnt f1.lvg f1.en f1.pan) :: (rQ t f1.runs) :: (qV fpv qv (qX p o1)) :: Rs) := by rw [hm_3]; exact Sat.shutM (⟨s.tr, s.ow, s.ca, s.pa, s.re, s.us, s.bp⟩ : MSl) (hs) hS
        replace hS := hS.pickN 5 [2, 3, 0, 1, 4];obtain ⟨f_2, hf_2⟩ : ∃ z_ : FS, z_ = (⟨f1.id, f1.fn, f1.r0, f1.r1, f1.r2, f1.r3, f1.runs, f1.dfr, f1.cnt, f1.lvg, f1.en, f1.pan⟩ : FS) := ⟨_, rfl⟩;replace hS : Sat w0 w ((frm bf f_2 (fpv)) :: (mch bm pv fuel m_3) :: (SX.blk b3 [iv z.k, iv z.a, iv z.b] 98) :: (qV fpv qv (qX p o1)) :: Rs) := by rw [hf_2]; exact Sat.shutF t hS
        have e1 : m_3 = m1.step f1.fn at_ := hm_3;have e2 : f_2 = f1 := hf_2;replace hS := hS.pickN 4 [1, 0, 3];replace hS : Sat w0 w ((mch bm pv fuel (m1.step f1.fn at_)) :: (frm bf f1 fpv) :: (qV fpv qv (qX p o1)) :: Rs) := by rw [e1, e2] at hS; exact hS
        have hj := (hsteps z (List.mem_of_getElem? hz)).j c5;have hc5 : ((z.a.toNat : Nat) : Int) = z.a := by omega
        refine ⟨_, (show 1 + k < 1 + (k + 1) by omega), k, m1.step f1.fn at_, f1, o1, z.a.toNat, rfl, ?_, ?_, (hok.step c2 f1.fn at_).less (by omega), hof.grew (Grew.step m1 f1.fn at_), hgr.trans (Grew.step m1 f1.fn at_), hfn, hfd, ?_, ?_, hS⟩
        · rw [← hR]; simp [bodyS, hz, c2, c5, FS.get, c6]
        · have h9 : (m1.step f1.fn at_).made = m1.made + 1 := rfl; rw [h9]; omega
        · omega
        · rw [hc5]; exact ha.keeps [0, 1, 4, 5] _ rfl
      refine jV ha rfl (decide_eq_false c6) ?_;refine wp_skip (jJ (wp_exit (yX (in_x (jJ ?_)))));replace hS := hS.pickN 12 [1, 2, 3, 4, 5, 6, 7, 8, 0, 9, 10, 11];obtain ⟨m_4, hm_4⟩ : ∃ z_ : MS, z_ = (⟨(m1.made + 1), m1.shared, m1.depth, m1.deepest, m1.trace, m1.owners, m1.calls, m1.panics, m1.recs, (m1.places ++ [(f1.fn, (at_ : Int))])⟩ : MS) := ⟨_, rfl⟩;replace hS : Sat w0 w ((mch bm pv fuel m_4) :: (SX.blk b3 [iv z.k, iv z.a, iv z.b] 98) :: (FB bf f1.id f1.fn f1.r0 f1.r1 f1.r2 f1.r3 t (fpv) f1.dfr f1.cnt f1.lvg f1.en f1.pan) :: (rQ t f1.runs) :: (qV fpv qv (qX p o1)) :: Rs) := by rw [hm_4]; exact Sat.shutM (⟨s.tr, s.ow, s.ca, s.pa, s.re, s.us, s.bp⟩ : MSl) (hs) hS
      replace hS := hS.pickN 5 [2, 3, 0, 1, 4];obtain ⟨f_3, hf_3⟩ : ∃ z_ : FS, z_ = (⟨f1.id, f1.fn, f1.r0, f1.r1, f1.r2, f1.r3, f1.runs, f1.dfr, f1.cnt, f1.lvg, f1.en, f1.pan⟩ : FS) := ⟨_, rfl⟩;replace hS : Sat w0 w ((frm bf f_3 (fpv)) :: (mch bm pv fuel m_4) :: (SX.blk b3 [iv z.k, iv z.a, iv z.b] 98) :: (qV fpv qv (qX p o1)) :: Rs) := by rw [hf_3]; exact Sat.shutF t hS
      have e1 : m_4 = m1.step f1.fn at_ := hm_4;have e2 : f_3 = f1 := hf_3;replace hS := hS.pickN 4 [1, 0, 3];replace hS : Sat w0 w ((mch bm pv fuel (m1.step f1.fn at_)) :: (frm bf f1 fpv) :: (qV fpv qv (qX p o1)) :: Rs) := by rw [e1, e2] at hS; exact hS
      have hj := (hsteps z (List.mem_of_getElem? hz)).j c5;have hc5 : (((at_ + 1) : Nat) : Int) = (at_ : Int) + 1 := by omega
      refine ⟨_, (show 1 + k < 1 + (k + 1) by omega), k, m1.step f1.fn at_, f1, o1, (at_ + 1), rfl, ?_, ?_, (hok.step c2 f1.fn at_).less (by omega), hof.grew (Grew.step m1 f1.fn at_), hgr.trans (Grew.step m1 f1.fn at_), hfn, hfd, ?_, ?_, hS⟩
      · rw [← hR]; simp [bodyS, hz, c2, c5, FS.get, c6]
      · have h9 : (m1.step f1.fn at_).made = m1.made + 1 := rfl; rw [h9]; omega
      · omega
      · rw [hc5]; exact ha.keeps [0, 1, 4, 5] _ rfl
    refine jV ha rfl (decide_eq_false c5) ?_;refine wp_skip (jJ (wp_seq (jX [0, 1, 2, 3] (jQ [(0, 69, ptr bm 0), (1, 70, ptr bf 0)] ha fun a ha => ?_))));refine xG 71 ha (hS.blk 0 rfl) fun a ha => ?_;replace hS := hS.pickN 12 [1, 2, 3, 4, 5, 6, 7, 8, 0, 9, 10, 11];obtain ⟨m_5, hm_5⟩ : ∃ z_ : MS, z_ = (⟨(m1.made + 1), m1.shared, m1.depth, m1.deepest, m1.trace, m1.owners, m1.calls, m1.panics, m1.recs, (m1.places ++ [(f1.fn, (at_ : Int))])⟩ : MS) := ⟨_, rfl⟩;replace hS : Sat w0 w ((mch bm pv fuel m_5) :: (SX.blk b3 [iv z.k, iv z.a, iv z.b] 98) :: (FB bf f1.id f1.fn f1.r0 f1.r1 f1.r2 f1.r3 t (fpv) f1.dfr f1.cnt f1.lvg f1.en f1.pan) :: (rQ t f1.runs) :: (qV fpv qv (qX p o1)) :: Rs) := by rw [hm_5]; exact Sat.shutM (⟨s.tr, s.ow, s.ca, s.pa, s.re, s.us, s.bp⟩ : MSl) (hs) hS
    replace hS := hS.pickN 5 [2, 3, 0, 1, 4];obtain ⟨f_4, hf_4⟩ : ∃ z_ : FS, z_ = (⟨f1.id, f1.fn, f1.r0, f1.r1, f1.r2, f1.r3, f1.runs, f1.dfr, f1.cnt, f1.lvg, f1.en, f1.pan⟩ : FS) := ⟨_, rfl⟩;replace hS : Sat w0 w ((frm bf f_4 (fpv)) :: (mch bm pv fuel m_5) :: (SX.blk b3 [iv z.k, iv z.a, iv z.b] 98) :: (qV fpv qv (qX p o1)) :: Rs) := by rw [hf_4]; exact Sat.shutF t hS
    have e1 : m_5 = m1.step f1.fn at_ := hm_5;have e2 : f_4 = f1 := hf_4;replace hS := hS.pickN 4 [1, 0, 3, 2];replace hS : Sat w0 w ((mch bm pv fuel (m1.step f1.fn at_)) :: (frm bf f1 fpv) :: (qV fpv qv (qX p o1)) :: (SX.blk b3 [iv z.k, iv z.a, iv z.b] 98) :: Rs) := by rw [e1, e2] at hS; exact hS
    have hok2 := hok.step c2 f1.fn at_;have hso := hsteps z (List.mem_of_getElem? hz);have hdp1 : f1.dfr = true → p.isSome = true := fun h => hdp (hfd ▸ h);have hgp := hp.grew (hgr.trans (Grew.step m1 f1.fn at_));have hd1 : (m1.step f1.fn at_).depth + d = 8 := by show m1.depth + d = 8; rw [hgr.depth]; exact hdep
    refine jZ (o_call (Post := hJ w0 bm bf pv fuel ((SX.blk b3 [iv z.k, iv z.a, iv z.b] 98) :: Rs) fpv qv p (stepS (callS P fuel d) (m1.step f1.fn at_) f1 p o1 z)) ha (by decide) (zW (op := (Op.call { callee := (Callee.value (Operand.func 122)), args := #[(Operand.tmp 69), (Operand.tmp 70), (Operand.tmp 71)], argTypes := #[83, 139, 98] })) (d := some 72) (ty := 4)) rfl Try.func122 (by kernel_rfl) (step_calls P hP d fuel bm pv sbs IH w0 w _ bf _ f1 fpv qv p o1 z x hS hok2 (hof.grew (Grew.step m1 f1.fn at_)) hso hd1 (by show 0 ≤ m1.depth; rw [hgr.depth]; exact hd0) hdp1 hgp (hPr.more [_])) (fun v8 w a hp7 ha => ?_) (fun c_ w hp7 => then_p (in_p (then_p (in_p (?_))))) (fun _ hp_ => hp_))
    rotate_left
    ·
      obtain ⟨m2, hres, rfl, hS9⟩ := hp7;refine ⟨ha.defers, m2, by rw [← hR]; simp [bodyS, hz, c2, c5, hres], rfl, ?_⟩;exact hS9.pickR (l := [_, SX.blk b3 [iv z.k, iv z.a, iv z.b] 98]) [0] (by decide) [_] rfl
    obtain ⟨m2, f2, o2, e2_, hres, rfl, hS⟩ := hp7;obtain ⟨hok3, hgr3, hof3⟩ := stepS_ok (callS_ok hP fuel d) hso hok2 (hof.grew (Grew.step m1 f1.fn at_)) hres;obtain ⟨hx1, hx2, hx3⟩ := stepS_fix hres;have ha : Has 73 [(0, ptr bm 0), (1, ptr bf 0), (4, .slice sb.A sb.n sb.c), (18, iv (at_ : Int)), (19, .slice sb.A sb.n sb.c), (20, iv (sb.n : Int)), (21, .bool (decide ((at_ : Int) < (sb.n : Int)))), (22, ptr bm 0), (23, ptr bm 0), (24, ptr bm 2), (25, iv m1.made), (26, ptr bm 0), (27, ptr bm 0), (28, ptr bm 1), (29, iv fuel), (30, .bool (decide (m1.made = fuel))), (33, ptr bm 0), (34, ptr bm 0), (35, ptr bm 2), (36, iv m1.made), (37, iv (m1.made + 1)), (38, ptr bm 0), (39, ptr bm 2), (40, ptr bm 0), (41, ptr bm 0), (42, ptr bm 11), (43, .map (some s.bp)), (44, ptr bf 0), (45, ptr bf 0), (46, ptr bf 1), (47, iv f1.fn), (48, iv (at_ : Int)), (49, .agg #[iv f1.fn, iv (at_ : Int)]), (50, .slice sb.A sb.n sb.c), (51, iv (at_ : Int)), (52, .pointer (some ⟨bk sb, of_ sb + at_ * 3, none⟩)), (53, .agg #[iv z.k, iv z.a, iv z.b]), (6, ptr b3 0), (54, iv (at_ : Int)), (55, iv ((at_ : Int) + 1)), (5, iv ((at_ : Int) + 1)), (56, ptr b3 0), (57, iv z.k), (58, .bool (decide (z.k = 11))), (69, ptr bm 0), (70, ptr bf 0), (71, .agg #[iv z.k, iv z.a, iv z.b]), (72, .bool e2_)] a := ha.keeps [0, 1, 4, 18, 19, 20, 21, 22, 23, 24, 25, 26, 27, 28, 29, 30, 33, 34, 35, 36, 37, 38, 39, 40, 41, 42, 43, 44, 45, 46, 47, 48, 49, 50, 51, 52, 53, 6, 54, 55, 5, 56, 57, 58, 69, 70, 71, 72] _ rfl;refine jY (jJ ?_)
    rcases Bool.eq_false_or_eq_true e2_ with c9 | c9
    ·
      refine jG ha rfl c9 ?_;refine wp_ret (in_r (xQ (in_r ?_)));refine end_noneR ha (by kernel_rfl) ?_;replace hS := hS.pickN 4 [0, 1, 2];exact ⟨m2, f2, o2, by rw [← hR]; simp [bodyS, hz, c2, c5, hres, c9], rfl, hS⟩
    refine jV ha rfl c9 ?_;refine wp_skip (in_n (jJ ?_));replace hS := hS.pickN 4 [0, 1, 2];have hc5 : ((at_ + 1 : Nat) : Int) = (at_ : Int) + 1 := by omega
    refine ⟨_, (show 1 + k < 1 + (k + 1) by omega), k, m2, f2, o2, at_ + 1, rfl, ?_, ?_, hok3, hof3, (hgr.trans (Grew.step m1 f1.fn at_)).trans hgr3, hx1.trans hfn, hx2.trans hfd, ?_, ?_, hS⟩
    · rw [← hR]; simp [bodyS, hz, c2, c5, hres, c9]
    · have h8 := hgr3.made; have h9 : (m1.step f1.fn at_).made = m1.made + 1 := rfl; omega
    · omega
    · rw [hc5]; exact ha.keeps [0, 1, 4, 5] _ rfl
  have hend : body[at_]? = none := List.getElem?_eq_none (by have := c1; omega)
  refine jV ha rfl (decide_eq_false c1) ?_
  refine wp_exit (yX (yX (in_x ?_)))
  refine end_none ha (by kernel_rfl) ?_
  replace hS : Sat w0 w ((MB bm pv fuel m1.made m1.shared m1.depth m1.deepest s.tr s.ow s.ca s.pa s.re s.bp) :: (rE s.tr m1.trace) :: (rI s.ow m1.owners) :: (rC s.ca m1.calls) :: (rP s.pa s.us) :: (jW (yQ s.us)) :: (rV s.re m1.recs) :: (yY s.bp m1.places) :: (FB bf f1.id f1.fn f1.r0 f1.r1 f1.r2 f1.r3 t (fpv) f1.dfr f1.cnt f1.lvg f1.en f1.pan) :: (rQ t f1.runs) :: (qV fpv qv (qX p o1)) :: Rs) := hS
  obtain ⟨m_6, hm_6⟩ : ∃ z_ : MS, z_ = (⟨m1.made, m1.shared, m1.depth, m1.deepest, m1.trace, m1.owners, m1.calls, m1.panics, m1.recs, m1.places⟩ : MS) := ⟨_, rfl⟩
  replace hS : Sat w0 w ((mch bm pv fuel m_6) :: (FB bf f1.id f1.fn f1.r0 f1.r1 f1.r2 f1.r3 t (fpv) f1.dfr f1.cnt f1.lvg f1.en f1.pan) :: (rQ t f1.runs) :: (qV fpv qv (qX p o1)) :: Rs) := by rw [hm_6]; exact Sat.shutM (⟨s.tr, s.ow, s.ca, s.pa, s.re, s.us, s.bp⟩ : MSl) (hs) hS
  replace hS := hS.pickN 4 [1, 2, 0, 3]
  obtain ⟨f_5, hf_5⟩ : ∃ z_ : FS, z_ = (⟨f1.id, f1.fn, f1.r0, f1.r1, f1.r2, f1.r3, f1.runs, f1.dfr, f1.cnt, f1.lvg, f1.en, f1.pan⟩ : FS) := ⟨_, rfl⟩
  replace hS : Sat w0 w ((frm bf f_5 (fpv)) :: (mch bm pv fuel m_6) :: (qV fpv qv (qX p o1)) :: Rs) := by rw [hf_5]; exact Sat.shutF t hS
  have e1 : m_6 = m1 := hm_6
  have e2 : f_5 = f1 := hf_5
  replace hS := hS.pickN 3 [1, 0, 2]
  rw [e1, e2] at hS
  exact ⟨m1, f1, o1, by rw [← hR]; simp [bodyS, hend], rfl, hS⟩
theorem code95 : Try.f95.body = some (Code.seq (cr Try.f95 0 false) (Code.seq (Code.seq (cr Try.f95 1 false) (Code.cond (Operand.tmp 19) (cr Try.f95 2 false) Code.skip)) (Code.seq (cr Try.f95 3 false) (Code.seq (cr Try.f95 4 false) (Code.seq (cr Try.f95 5 false) (Code.seq (Code.seq (cr Try.f95 6 false) (Code.cond (Operand.tmp 38) (cr Try.f95 7 false) Code.skip)) (Code.seq (Code.seq (cr Try.f95 8 false) (Code.cond (Operand.tmp 43) (cr Try.f95 9 false) Code.skip)) (Code.seq (cr Try.f95 10 false) (Code.seq (cr Try.f95 11 false) (Code.seq (cr Try.f95 12 false) (Code.seq (cr Try.f95 13 true) (Code.seq (cr Try.f95 14 false) (Code.seq (Code.block 0 (Code.loop (Code.seq (Code.seq (cr Try.f95 15 false) (Code.cond (Operand.tmp 95) Code.skip (Code.exit 0))) (Code.block 1 (Code.seq (cr Try.f95 16 true) (Code.seq (cr Try.f95 17 true) (cr Try.f95 18 false))))))) (Code.seq (cr Try.f95 19 false) (Code.seq (cr Try.f95 20 false) (Code.seq (cr Try.f95 21 false) Code.ret)))))))))))))))) := by kernel_rfl
theorem call_none (P : List (List Stp)) (hP : ProgOk P) (D : Nat) (fuel : Int) (bm : Nat) (pv : Sl) (sbs : List Sl) (IH : ∀ d, D = d + 1 → CallC P fuel bm pv sbs d) (w0 w : World) (Rs : List Asn) (m : MS) (fn arg : Int) (qv : Value) (o : Int) (dfr : Bool) (x : Nat) (hS : Sat w0 w (mch bm pv fuel m :: qV (.pointer none) qv (qX none o) :: Rs)) (hm : OkM fuel m (x + 2)) (hdep : m.depth + D = 8) (hd0 : 0 ≤ m.depth) (h0 : 0 ≤ fn) (h1 : fn < P.length) (hdp : dfr = true → (none : Option FS).isSome = true) (hp : OkP m none) (hPr : Keeps w0 Rs (fun w => RdProg w pv sbs P)) :
    Calls Try.prog 95 #[.pointer (some ⟨bm, 0, none⟩), .int .i64 fn, .int .i64 arg, .pointer none, .bool dfr] w (callPost w0 bm pv fuel Rs (.pointer none) qv none (callS P fuel D m fn arg none o dfr)) := by
  have hcbd := hm.bnd
  have hcm := hm.made1
  have hcc := hm.calls
  have hfit : m.calls.length ≤ 1000 := by omega
  obtain ⟨s, hs, hS⟩ := Sat.openM hS
  replace hS : Sat w0 w ((MB bm pv fuel m.made m.shared m.depth m.deepest s.tr s.ow s.ca s.pa s.re s.bp) :: (rE s.tr m.trace) :: (rI s.ow m.owners) :: (rC s.ca m.calls) :: (rP s.pa s.us) :: (jW (yQ s.us)) :: (rV s.re m.recs) :: (yY s.bp m.places) :: qV (.pointer none) qv (qX none o) :: Rs) := hS
  have hcn : s.ca.n = m.calls.length := hS.rowL (s := s.ca) (enc := cellsC) 3 zG (by decide) rfl
  refine enter (n := 143) Try.func95 code95 (by kernel_rfl) (Nat.le_of_ble_eq_true rfl) (fun a ha => ?_)
  replace ha : Has 143 [(0, ptr bm 0), (1, iv fn), (2, iv arg), (3, .pointer none), (4, .bool dfr)] a := ha
  refine wp_seq (jX [0] (jQ [(0, 10, .pointer none)] ha fun a ha => ?_))
  refine jY (jJ (wp_seq (wp_seq (jX [0, 1, 2, 3, 4] (jQ [(0, 15, ptr bm 0), (1, 16, ptr bm 0), (2, 17, ptr bm 4)] ha fun a ha => ?_)))))
  refine jU (d := 18) (b := bm) (j := 4) ha (hS.blk 0 rfl) rfl fun a ha => ?_
  refine jQ [(4, 19, .bool (decide (m.depth = 8)))] ha fun a ha => ?_
  refine jY (jJ ?_)
  by_cases c1 : m.depth = 8
  ·
    refine jG ha rfl (decide_eq_true c1) ?_;refine jX [0, 1, 2] (jQ [(0, 20, .agg #[]), (1, 21, .iface 161 (.agg #[]))] ha fun a ha => ?_);refine jZ (o_panic ha (zW (op := (Op.panic (Operand.tmp 21))) (ty := 0)) rfl (then_p (?_)));replace hS : Sat w0 w ((MB bm pv fuel m.made m.shared m.depth m.deepest s.tr s.ow s.ca s.pa s.re s.bp) :: (rE s.tr m.trace) :: (rI s.ow m.owners) :: (rC s.ca m.calls) :: (rP s.pa s.us) :: (jW (yQ s.us)) :: (rV s.re m.recs) :: (yY s.bp m.places) :: (qV (.pointer none) qv (qX none o)) :: Rs) := hS;obtain ⟨m_1, hm_1⟩ : ∃ z_ : MS, z_ = (⟨m.made, m.shared, m.depth, m.deepest, m.trace, m.owners, m.calls, m.panics, m.recs, m.places⟩ : MS) := ⟨_, rfl⟩;replace hS : Sat w0 w ((mch bm pv fuel m_1) :: (qV (.pointer none) qv (qX none o)) :: Rs) := by rw [hm_1]; exact Sat.shutM (⟨s.tr, s.ow, s.ca, s.pa, s.re, s.us, s.bp⟩ : MSl) (hs) hS
    have e1 : m_1 = m := hm_1;have hD : D = 0 := by have := c1; omega
    refine ⟨ha.defers, m, by rw [hD]; rfl, rfl, ?_⟩;rw [e1] at hS;exact hS.pickR (l := [_, qV (.pointer none) qv (qX none o)]) [0] (by decide) [_] rfl
  obtain ⟨d, rfl⟩ : ∃ d, D = d + 1 := ⟨D - 1, by have := c1; omega⟩
  generalize hR : callS P fuel (d + 1) m fn arg none o dfr = R_
  refine jV ha rfl (decide_eq_false c1) ?_
  refine wp_skip (jJ (wp_seq (jX [0, 1, 2, 3, 4, 5, 6, 7, 8, 9, 10] (jQ [(0, 22, ptr bm 0), (1, 23, ptr bm 0), (2, 24, ptr bm 8)] ha fun a ha => ?_))))
  refine jU (d := 25) (b := bm) (j := 8) ha (hS.blk 0 rfl) rfl fun a ha => ?_
  refine jQ [(4, 26, iv (s.ca.n : Int)), (5, 27, iv fn), (6, 28, .pointer none), (7, 29, .bool dfr), (8, 30, .agg #[iv (s.ca.n : Int), iv fn, iv 0, iv 0, iv 0, iv 0, .slice none 0 0, .pointer none, .bool dfr, .bool false, .bool false, iv 1, iv (-1)])] ha fun a ha => ?_
  refine jZ (qJ 31 [iv (s.ca.n : Int), iv fn, iv 0, iv 0, iv 0, iv 0, .slice none 0 0, .pointer none, .bool dfr, .bool false, .bool false, iv 1, iv (-1)] 143 (ptr · 0) ha hS fun bf w a hb2 hS ha => ?_)
  refine jQ [(10, 11, ptr bf 0)] ha fun a ha => ?_
  refine jY (jJ (wp_seq (jX [0, 1, 2, 3, 4, 5] (jQ [(0, 32, ptr bf 0), (1, 33, iv arg), (2, 34, ptr bf 0), (3, 35, ptr bf 2), (4, 36, ptr bf 2)] ha fun a ha => ?_))))
  refine jZ (qH bf 2 (iv arg) 0 ha hS rfl rfl fun w a hS ha => ?_)
  refine jY ?_
  replace ha := ha.as [(0, ptr bm 0), (1, iv fn), (2, iv arg), (3, .pointer none), (4, .bool dfr), (10, .pointer none), (11, ptr bf 0)] rfl
  refine jJ (wp_seq (jX [0, 1] (jQ [(0, 12, iv (-1)), (1, 13, iv 1)] ha fun a ha => ?_)))
  refine jY (jJ (wp_seq (wp_seq (jX [0, 1] (jQ [(0, 37, .pointer none), (1, 38, .bool false)] ha fun a ha => ?_)))))
  refine jY (jJ ?_)
  refine jV ha rfl rfl ?_
  refine wp_skip (jJ (wp_seq (wp_seq (jX [0] (jQ [(0, 43, .bool dfr)] ha fun a ha => ?_)))))
  refine jY (jJ (kZ (J := fun a_ w_ => Has 143 [(0, ptr bm 0), (1, iv fn), (2, iv arg), (4, .bool dfr), (10, .pointer none), (11, ptr bf 0), (12, iv (-1)), (13, iv (if dfr = true then 3 else 1)), (43, .bool dfr)] a_ ∧ Sat w0 w_ ((FB bf (s.ca.n : Int) fn arg 0 0 0 (⟨none, 0, 0⟩) (.pointer none) dfr false false 1 (-1)) :: (MB bm pv fuel m.made m.shared m.depth m.deepest s.tr s.ow s.ca s.pa s.re s.bp) :: (rE s.tr m.trace) :: (rI s.ow m.owners) :: (rC s.ca m.calls) :: (rP s.pa s.us) :: (jW (yQ s.us)) :: (rV s.re m.recs) :: (yY s.bp m.places) :: (qV (.pointer none) qv (qX none o)) :: Rs)) ?_ ?_))
  ·
    rcases Bool.eq_false_or_eq_true dfr with c3 | c3
    ·
      refine jG ha rfl c3 ?_;refine jX [0] (jQ [(0, 13, iv 3)] ha fun a ha => ?_);refine jY ?_;have e4 : ((if dfr = true then 3 else 1) : Int) = 3 := by simp [c1, c3]
      refine jJ ⟨?_, ?_⟩
      · first | (rw [e4]; exact ha.keeps [0, 1, 2, 4, 10, 11, 12, 13, 43] _ rfl) | exact ha.keeps [0, 1, 2, 4, 10, 11, 12, 13, 43] _ rfl
      · first | (rw [e4]; exact hS) | exact hS
    refine jV ha rfl c3 ?_;refine wp_skip ?_;have e5 : ((if dfr = true then 3 else 1) : Int) = 1 := by simp [c1, c3]
    refine jJ ⟨?_, ?_⟩
    · first | (rw [e5]; exact ha.keeps [0, 1, 2, 4, 10, 11, 12, 13, 43] _ rfl) | exact ha.keeps [0, 1, 2, 4, 10, 11, 12, 13, 43] _ rfl
    · first | (rw [e5]; exact hS) | exact hS
  rintro a w ⟨ha, hS⟩
  refine wp_seq (jX [0, 1, 2, 3, 4, 5, 6, 7, 8, 9, 10, 11, 12, 13, 14, 15] (jQ [(0, 44, ptr bm 0), (1, 45, ptr bm 0), (2, 46, ptr bm 0), (3, 47, ptr bm 8)] ha fun a ha => ?_))
  refine jU (d := 48) (b := bm) (j := 8) ha (hS.blk 1 rfl) rfl fun a ha => ?_
  refine jQ [(5, 49, iv fn), (6, 50, iv (-1)), (7, 51, .bool dfr), (8, 52, .agg #[iv fn, iv (-1), .bool dfr, iv 4, iv 0]), (9, 53, iv arg), (10, 54, .agg #[iv fn, iv (-1), .bool dfr, iv 4, iv 0, iv arg])] ha fun a ha => ?_
  refine jZ (qJ 55 [iv fn, iv (-1), .bool dfr, iv 4, iv 0, iv arg] 147 (fun b => .slice (some ⟨b, 0, none⟩) 1 1) ha hS fun b6 w a hb7 hS ha => ?_)
  refine jZ (o_ap 56 5 0 (encC (m.calls ++ [(⟨fn, (-1), dfr, 4, 0, arg⟩ : CallI)])) ha hS rfl rfl (by rw [encC_length]; simp only [List.length_cons, List.length_nil]; have := hfit; omega) (encC_snoc _ _ _ _ _ _ _) fun s11 w a hS hn12 ha => ?_)
  refine jQ [(13, 57, ptr bm 0), (14, 58, ptr bm 8)] ha fun a ha => ?_
  refine jZ (qH bm 8 (.slice s11.A s11.n s11.c) 2 ha hS rfl rfl fun w a hS ha => ?_)
  refine jY ?_
  replace ha := ha.as [(0, ptr bm 0), (1, iv fn), (2, iv arg), (10, .pointer none), (11, ptr bf 0), (13, iv (if dfr = true then 3 else 1))] rfl
  refine jJ (wp_seq (jX [0, 1, 2, 3, 4, 5, 6, 7, 8] (jQ [(0, 59, ptr bm 0), (1, 60, iv (if dfr = true then 3 else 1)), (2, 61, iv fn), (3, 62, iv arg), (4, 63, ptr bf 0), (5, 64, ptr bf 0), (6, 65, ptr bf 0)] ha fun a ha => ?_)))
  refine jU (d := 66) (b := bf) (j := 0) ha (hS.blk 1 rfl) rfl fun a ha => ?_
  replace hS := hS.pickN 11 [2, 3, 4, 5, 6, 7, 8, 9, 0, 1, 10]
  obtain ⟨m_2, hm_2⟩ : ∃ z_ : MS, z_ = (⟨m.made, m.shared, m.depth, m.deepest, m.trace, m.owners, (m.calls ++ [(⟨fn, (-1), dfr, 4, 0, arg⟩ : CallI)]), m.panics, m.recs, m.places⟩ : MS) := ⟨_, rfl⟩
  replace hS : Sat w0 w ((mch bm pv fuel m_2) :: (SX.blk b6 [iv fn, iv (-1), .bool dfr, iv 4, iv 0, iv arg] 147) :: (FB bf (s.ca.n : Int) fn arg 0 0 0 (⟨none, 0, 0⟩) (.pointer none) dfr false false 1 (-1)) :: (qV (.pointer none) qv (qX none o)) :: Rs) := by rw [hm_2]; exact Sat.shutM (⟨s.tr, s.ow, s11, s.pa, s.re, s.us, s.bp⟩ : MSl) (hs) hS
  refine jZ (qG 67 (vs := [ptr bm 0, iv (if dfr = true then 3 else 1), iv fn, iv arg, iv (s.ca.n : Int)]) ha (tell_calls w0 w _ bm pv fuel m_2 (if dfr = true then 3 else 1) fn arg (s.ca.n : Int) hS (by rw [hm_2]; simp only []; have := hm.bnd; have := hm.own; have := hm.made1; omega)) fun v13 w a hp14 ha => ?_)
  obtain ⟨rfl, hS⟩ := hp14
  obtain ⟨mA, hmA⟩ : ∃ z_ : MS, z_ = m_2.tell (if dfr = true then 3 else 1) fn arg (s.ca.n : Int) := ⟨_, rfl⟩
  have hS := hS
  rw [← hmA] at hS
  obtain ⟨sA, hsA, hS⟩ := Sat.openM hS
  replace hS : Sat w0 w ((MB bm pv fuel mA.made mA.shared mA.depth mA.deepest sA.tr sA.ow sA.ca sA.pa sA.re sA.bp) :: (rE sA.tr mA.trace) :: (rI sA.ow mA.owners) :: (rC sA.ca mA.calls) :: (rP sA.pa sA.us) :: (jW (yQ sA.us)) :: (rV sA.re mA.recs) :: (yY sA.bp mA.places) :: (SX.blk b6 [iv fn, iv (-1), .bool dfr, iv 4, iv 0, iv arg] 147) :: (FB bf (s.ca.n : Int) fn arg 0 0 0 (⟨none, 0, 0⟩) (.pointer none) dfr false false 1 (-1)) :: (qV (.pointer none) qv (qX none o)) :: Rs) := hS
  have hdA : mA.depth = m.depth := by rw [hmA, hm_2]; rfl
  refine jY (jJ (wp_seq (jX [0, 1, 2, 3, 4, 5, 6, 7] (jQ [(0, 68, ptr bm 0), (1, 69, ptr bm 0), (2, 70, ptr bm 4)] ha fun a ha => ?_))))
  refine jU (d := 71) (b := bm) (j := 4) ha (hS.blk 0 rfl) rfl fun a ha => ?_
  refine zJ 72 (mA.depth + 1) ha fun a ha => ?_
  refine jQ [(5, 73, ptr bm 0), (6, 74, ptr bm 4)] ha fun a ha => ?_
  refine jZ (qH bm 4 (iv (mA.depth + 1)) 0 ha hS rfl rfl fun w a hS ha => ?_)
  refine jY ?_
  replace ha := ha.as [(0, ptr bm 0), (10, .pointer none), (11, ptr bf 0)] rfl
  refine jJ (wp_seq (xH 12 13 hS fun w hS => ?_))
  refine jK (k := 9) [(0, 75, ptr bm 0), (1, 76, ptr bm 0), (2, 77, ptr bm 0), (3, 78, ptr bm 5)] ha (.inr hS) fun a ha => ?_
  refine qW 4 (d := 79) (b := bm) (j := 5) ha hS (fun _ hw => hw.blk 0 rfl) rfl fun a ha => ?_
  refine jK (k := 5) [(5, 80, ptr bm 0), (6, 81, ptr bm 0), (7, 82, ptr bm 4)] ha (.inr hS) fun a ha => ?_
  refine qW 8 (d := 83) (b := bm) (j := 4) ha hS (fun _ hw => hw.blk 0 rfl) rfl fun a ha => ?_
  refine zQ 9 (iv (max mA.deepest (mA.depth + 1))) ha ((qZ (v := .int .i64 (if mA.deepest < (mA.depth + 1) then (mA.depth + 1) else mA.deepest)) ha (zW (op := (Op.call { callee := (Callee.builtin Builtin.max), args := #[(Operand.tmp 79), (Operand.tmp 83)], argTypes := #[3, 3] })) (d := some 84) (ty := 3)) (by kernel_rfl) (fun _ => by kernel_rfl)).as (by congr 1; omega)) (.inr hS) fun a ha => ?_
  refine jK (k := 1) [(10, 85, ptr bm 0), (11, 86, ptr bm 5)] ha (.inr hS) fun a ha => ?_
  refine jH 12 (qH bm 5 (iv (max mA.deepest (mA.depth + 1))) 0 ha hS rfl rfl fun w a hS ha => ?_)
  refine xJ (xX (jJ (wp_seq (jX [0, 1, 2] (jQ [(0, 87, ptr bm 0), (1, 88, ptr bf 0)] ha fun a ha => ?_)))))
  replace hS : Sat w0 w ((MB bm pv fuel mA.made mA.shared (mA.depth + 1) (max mA.deepest (mA.depth + 1)) sA.tr sA.ow sA.ca sA.pa sA.re sA.bp) :: (rE sA.tr mA.trace) :: (rI sA.ow mA.owners) :: (rC sA.ca mA.calls) :: (rP sA.pa sA.us) :: (jW (yQ sA.us)) :: (rV sA.re mA.recs) :: (yY sA.bp mA.places) :: (SX.blk b6 [iv fn, iv (-1), .bool dfr, iv 4, iv 0, iv arg] 147) :: (FB bf (s.ca.n : Int) fn arg 0 0 0 (⟨none, 0, 0⟩) (.pointer none) dfr false false 1 (-1)) :: (qV (.pointer none) qv (qX none o)) :: Rs) := hS
  obtain ⟨m_3, hm_3⟩ : ∃ z_ : MS, z_ = (⟨mA.made, mA.shared, (mA.depth + 1), (max mA.deepest (mA.depth + 1)), mA.trace, mA.owners, mA.calls, mA.panics, mA.recs, mA.places⟩ : MS) := ⟨_, rfl⟩
  replace hS : Sat w0 w ((mch bm pv fuel m_3) :: (SX.blk b6 [iv fn, iv (-1), .bool dfr, iv 4, iv 0, iv arg] 147) :: (FB bf (s.ca.n : Int) fn arg 0 0 0 (⟨none, 0, 0⟩) (.pointer none) dfr false false 1 (-1)) :: (qV (.pointer none) qv (qX none o)) :: Rs) := by rw [hm_3]; exact Sat.shutM (⟨sA.tr, sA.ow, sA.ca, sA.pa, sA.re, sA.us, sA.bp⟩ : MSl) (hsA) hS
  replace hS : Sat w0 w ((rQ (⟨none, 0, 0⟩) []) :: (mch bm pv fuel m_3) :: (SX.blk b6 [iv fn, iv (-1), .bool dfr, iv 4, iv 0, iv arg] 147) :: (FB bf (s.ca.n : Int) fn arg 0 0 0 (⟨none, 0, 0⟩) (.pointer none) dfr false false 1 (-1)) :: (qV (.pointer none) qv (qX none o)) :: Rs) := Sat.nilRow hS
  replace hS := hS.pickN 5 [3, 0, 1, 2, 4]
  obtain ⟨f_1, hf_1⟩ : ∃ z_ : FS, z_ = (⟨(s.ca.n : Int), fn, arg, 0, 0, 0, [], dfr, false, false, 1, (-1)⟩ : FS) := ⟨_, rfl⟩
  replace hS : Sat w0 w ((frm bf f_1 (.pointer none)) :: (mch bm pv fuel m_3) :: (SX.blk b6 [iv fn, iv (-1), .bool dfr, iv 4, iv 0, iv arg] 147) :: (qV (.pointer none) qv (qX none o)) :: Rs) := by rw [hf_1]; exact Sat.shutF (⟨none, 0, 0⟩ : Sl) hS
  have e1 : m_3 = m.enter fn arg (parId none) dfr := by rw [hm_3, hmA, hm_2]; simp only [MS.enter, MS.tell, hcn, parId]
  have e2 : f_1 = m.frame fn arg dfr := by rw [hf_1]; simp only [MS.frame, hcn]
  replace hS := hS.pickN 4 [1, 0, 3]
  replace hS : Sat w0 w ((mch bm pv fuel (m.enter fn arg (parId none) dfr)) :: (frm bf (m.frame fn arg dfr) (.pointer none)) :: (qV (.pointer none) qv (qX none o)) :: Rs) := by rw [e1, e2] at hS; exact hS
  have hme : OkM fuel (m.enter fn arg (parId none) dfr) (x + 1) := OkM.enter hm _ _ _ _
  have hfe := frame_ok (n := P.length) m fn arg (parId none) dfr h0 h1
  have hgp : OkP (m.enter fn arg (parId none) dfr) none := fun q hq => hp q hq
  refine jZ (o_call (Post := bodyPost_ w0 bm bf pv fuel Rs (.pointer none) qv none (bodyS fuel (callS P fuel d) (P.getD (m.frame fn arg dfr).fn.toNat []) none (fuel - (m.enter fn arg (parId none) dfr).made).toNat.succ (m.enter fn arg (parId none) dfr) (m.frame fn arg dfr) o 0)) ha (by decide) (zW (op := (Op.call { callee := (Callee.value (Operand.func 107)), args := #[(Operand.tmp 87), (Operand.tmp 88)], argTypes := #[83, 139] })) (d := some 89) (ty := 0)) rfl Try.func107 (by kernel_rfl) (body_calls P hP d fuel bm pv sbs (IH d rfl) w0 w _ bf _ _ (.pointer none) qv none o (x + 1) hS (by simpa [MS.frame] using hme) hfe (by show m.depth + 1 + d = 8; omega) (by show 0 ≤ m.depth + 1; omega) (fun h => hdp h) hgp hPr) (fun v16 w a hp15 ha => ?_) (fun c_ w hp15 => then_p (?_)) (fun _ hp_ => hp_))
  rotate_left
  ·
    obtain ⟨m3, hres, rfl, hS9⟩ := hp15;exact ⟨ha.defers, m3, by rw [← hR]; exact callS_spent (fn := fn) hres, rfl, hS9⟩
  obtain ⟨m3, f3, o3, hres, rfl, hS⟩ := hp15
  obtain ⟨hok3, hgr3, hof3⟩ := bodyS_ok (x := x + 1) (callS_ok hP fuel d) (body_steps hP h0 h1) _ _ _ _ _ (by simpa [MS.frame] using hme) hfe hres
  generalize hR2 : runsS (callS P fuel d) f3.runs.length m3 f3 none o3 = R2_
  have hRc : R_ = tailS R2_ := by rw [← hR, callS_done (fn := fn) hres, hR2]
  have ha : Has 143 [(0, ptr bm 0), (10, .pointer none), (11, ptr bf 0), (87, ptr bm 0), (88, ptr bf 0)] a := ha.keeps [0, 10, 11, 87, 88] _ rfl
  refine jY (jJ (wp_seq (wp_block ?_)))
  replace hS : Sat w0 w ((mch bm pv fuel m3) :: (frm bf f3 (.pointer none)) :: (qV (.pointer none) qv (qX none o3)) :: Rs) := hS
  refine wp_loop_ghost (fun n_ a_ w_ => ∃ (k : Nat) (m1 : MS) (f1 : FS), n_ = (1 + k) ∧ (runsS (callS P fuel d) k m1 f1 none o3 = R2_) ∧ (f1.runs.length = k) ∧ (OkM fuel m1 (2 * f1.runs.length + (x + 1))) ∧ (OkF P.length m1 f1) ∧ (Grew m3 m1) ∧ Has 143 [(0, ptr bm 0), (11, ptr bf 0)] a_ ∧ Sat w0 w_ ((mch bm pv fuel m1) :: (frm bf f1 (.pointer none)) :: (qV (.pointer none) qv (qX none o3)) :: Rs)) _ ⟨_, m3, f3, rfl, hR2, rfl, hok3, hof3, Grew.refl _, ha.keeps [0, 11] _ rfl, hS⟩ ?_
  rintro n_ a w ⟨k, m1, f1, rfl, hR_, hk, hok, hof, hgr, ha, hS⟩
  obtain ⟨s, t, hs, hS⟩ := Sat.openMF hS
  replace hS : Sat w0 w ((MB bm pv fuel m1.made m1.shared m1.depth m1.deepest s.tr s.ow s.ca s.pa s.re s.bp) :: (rE s.tr m1.trace) :: (rI s.ow m1.owners) :: (rC s.ca m1.calls) :: (rP s.pa s.us) :: (jW (yQ s.us)) :: (rV s.re m1.recs) :: (yY s.bp m1.places) :: (FB bf f1.id f1.fn f1.r0 f1.r1 f1.r2 f1.r3 t (.pointer none) f1.dfr f1.cnt f1.lvg f1.en f1.pan) :: (rQ t f1.runs) :: (qV (.pointer none) qv (qX none o3)) :: Rs) := hS
  have htn : t.n = f1.runs.length := hS.rowL (s := t) (enc := cellsR) 9 yG (by decide) rfl
  have hrl : f1.runs.length ≤ 1000 := by have := hok.bnd; have := hok.made1; omega
  refine wp_seq (wp_seq (jX [0, 1, 2, 3, 4, 5] (jQ [(0, 90, ptr bf 0), (1, 91, ptr bf 0), (2, 92, ptr bf 6)] ha fun a ha => ?_)))
  refine jU (d := 93) (b := bf) (j := 6) ha (hS.blk 8 rfl) rfl fun a ha => ?_
  refine jQ [(4, 94, iv (t.n : Int)), (5, 95, .bool (decide ((t.n : Int) > 0)))] ha fun a ha => ?_
  refine jY ?_
  replace ha := ha.as [(0, ptr bm 0), (11, ptr bf 0), (90, ptr bf 0), (91, ptr bf 0), (92, ptr bf 6), (93, .slice t.A t.n t.c), (94, iv (t.n : Int)), (95, .bool (decide ((t.n : Int) > 0)))] rfl
  refine jJ ?_
  by_cases c17 : (t.n : Int) > 0
  ·
    refine jG ha rfl (decide_eq_true c17) ?_;refine wp_skip (jJ (wp_block (wp_seq ?_)));have hpos : 0 < f1.runs.length := by rw [← htn]; have := c17; omega
    obtain ⟨z, hz⟩ : ∃ z, f1.runs[t.n - 1]? = some z := ⟨_, List.getElem?_eq_getElem (by rw [htn]; omega)⟩;have hzf := hof.runs z (List.mem_of_getElem? hz);have hlast : f1.runs.getLast? = some z := by rw [List.getLast?_eq_getElem?, ← htn]; exact hz
    obtain ⟨k', hks⟩ : ∃ k', k = k' + 1 := ⟨k - 1, by omega⟩;have hdl : f1.runs.dropLast = f1.runs.take (t.n - 1) := by rw [List.dropLast_eq_take, htn]
    refine xH 13 14 hS fun w hS => ?_;refine jK (k := 11) [(0, 96, ptr bf 0), (1, 97, ptr bf 0), (2, 98, ptr bf 6)] ha (.inr hS) fun a ha => ?_;refine qW 3 (d := 99) (b := bf) (j := 6) ha hS (fun _ hw => hw.blk 8 rfl) rfl fun a ha => ?_;refine jK (k := 7) [(4, 100, ptr bf 0), (5, 101, ptr bf 0), (6, 102, ptr bf 6)] ha (.inr hS) fun a ha => ?_;refine qW 7 (d := 103) (b := bf) (j := 6) ha hS (fun _ hw => hw.blk 8 rfl) rfl fun a ha => ?_;refine jK (k := 5) [(8, 104, iv (t.n : Int))] ha (.inr hS) fun a ha => ?_;refine kW 9 105 ((t.n : Int) - 1) ha (.inr hS) fun a ha => ?_;refine zQ 10 (.pointer (some ⟨bk t, (t.n - 1) * 2, none⟩)) ha (xW (s := t) (el := 175) (sz := 2) (j := (t.n - 1)) ha (yU (t := 141) (x := 99) (y := 105) (d := 106)) rfl rfl (by kernel_rfl) (by kernel_rfl) (hS.rowA (s := t) 9 rfl (by have := (List.getElem?_eq_some_iff.1 hz).1; rw [encR_length]; omega)) ((by omega)) (by have h9 := hS.rowL (s := t) (enc := cellsR) 9 yG (by decide) rfl; have := (List.getElem?_eq_some_iff.1 hz).1; omega)) (.inr hS) fun a ha => ?_;refine zH 11 (.agg #[iv z.1, iv z.2]) ha (v_loadL ha (zV (t := 175) (x := 106) (d := 107) (ty := 175)) rfl (fun w' hw => run_loadVar_agg (vs := [iv z.1, iv z.2]) (by kernel_rfl) (fun i u hu => by match i, hu with | 0, hu => rw [add0]; rw [← Option.some.inj hu]; exact (((hw.rdC (s := t) 9 rfl)).cells _ _ ((flat_get (enc := cellsR) (o := 0) yG hz (by decide)).trans rfl)) | 1, hu => rw [add0]; rw [← Option.some.inj hu]; exact (((hw.rdC (s := t) 9 rfl)).cells _ _ ((flat_get (enc := cellsR) (o := 1) yG hz (by decide)).trans rfl)) | n + 2, hu => simp at hu))) hS fun a ha => ?_;refine jH 12 (qJ 14 [iv 0, iv 0] 175 (ptr · 0) ha hS fun b18 w a hb19 hS ha => ?_);refine ⟨.inr (Sat.rest [_] hS), ?_⟩;refine jH 13 (o_sa 0 ha (qU (t := 175) (x := 14) (y := 107)) hS fun w a hS ha => ?_);refine xJ (xX (jJ (wp_seq (xH 14 15 hS fun w hS => ?_))));refine jK (k := 11) [(0, 108, ptr bf 0), (1, 109, ptr bf 0), (2, 110, ptr bf 0), (3, 111, ptr bf 6)] ha (.inr hS) fun a ha => ?_;refine qW 4 (d := 112) (b := bf) (j := 6) ha hS (fun _ hw => hw.blk 9 rfl) rfl fun a ha => ?_;refine jK (k := 7) [(5, 113, ptr bf 0), (6, 114, ptr bf 0), (7, 115, ptr bf 6)] ha (.inr hS) fun a ha => ?_;refine qW 8 (d := 116) (b := bf) (j := 6) ha hS (fun _ hw => hw.blk 9 rfl) rfl fun a ha => ?_;refine jK (k := 5) [(9, 117, iv (t.n : Int))] ha (.inr hS) fun a ha => ?_;refine kW 10 118 ((t.n : Int) - 1) ha (.inr hS) fun a ha => ?_;refine zQ 11 (.slice t.A (t.n - 1) t.c) ha (v_takeZ (el := 175) (j := t.n - 1) ha (zW (op := (Op.slice 141 (Operand.tmp 112) none (some (Operand.tmp 118)) none)) (d := some 119) (ty := 141)) rfl rfl (by kernel_rfl) (by kernel_rfl) (by omega) (Nat.sub_le _ _) (row_cap hS 10 rfl)) (.inr hS) fun a ha => ?_;refine jK (k := 1) [(12, 120, ptr bf 0), (13, 121, ptr bf 6)] ha (.inr hS) fun a ha => ?_;replace hS : Sat w0 w ((SX.blk b18 [iv z.1, iv z.2] 175) :: (MB bm pv fuel m1.made m1.shared m1.depth m1.deepest s.tr s.ow s.ca s.pa s.re s.bp) :: (rE s.tr m1.trace) :: (rI s.ow m1.owners) :: (rC s.ca m1.calls) :: (rP s.pa s.us) :: (jW (yQ s.us)) :: (rV s.re m1.recs) :: (yY s.bp m1.places) :: (FB bf f1.id f1.fn f1.r0 f1.r1 f1.r2 f1.r3 t (.pointer none) f1.dfr f1.cnt f1.lvg f1.en f1.pan) :: (SX.row (.slice t.A (t.n - 1) t.c) 175 2 (encR (f1.runs.take (t.n - 1)))) :: (qV (.pointer none) qv (qX none o3)) :: Rs) := by have hh := Sat.rowTake hS 10 rfl (t.n - 1) (Nat.sub_le _ _); rw [show (encR f1.runs).take ((t.n - 1) * 2) = encR (f1.runs.take (t.n - 1)) from flat_take yG _ _] at hh; exact hh
    refine jH 14 (qH bf 6 (.slice t.A (t.n - 1) t.c) 9 ha hS rfl rfl fun w a hS ha => ?_);refine xJ (xX (jJ (jX [0, 1, 2, 3, 4, 5, 6, 7, 8, 9] (jQ [(0, 122, ptr bm 0), (1, 123, ptr bf 0), (2, 124, ptr bm 0), (3, 125, ptr b18 0)] ha fun a ha => ?_))));refine jU (d := 126) (b := b18) (j := 0) ha (hS.blk 0 rfl) rfl fun a ha => ?_;refine jQ [(5, 127, ptr b18 1)] ha fun a ha => ?_;refine jU (d := 128) (b := b18) (j := 1) ha (hS.blk 0 rfl) rfl fun a ha => ?_;refine jQ [(7, 129, ptr bf 0)] ha fun a ha => ?_;replace hS := hS.pickN 12 [1, 2, 3, 4, 5, 6, 7, 8, 0, 9, 10, 11];obtain ⟨m_4, hm_4⟩ : ∃ z_ : MS, z_ = (⟨m1.made, m1.shared, m1.depth, m1.deepest, m1.trace, m1.owners, m1.calls, m1.panics, m1.recs, m1.places⟩ : MS) := ⟨_, rfl⟩;replace hS : Sat w0 w ((mch bm pv fuel m_4) :: (SX.blk b18 [iv z.1, iv z.2] 175) :: (SX.blk bf [iv f1.id, iv f1.fn, iv f1.r0, iv f1.r1, iv f1.r2, iv f1.r3, .slice t.A (t.n - 1) t.c, .pointer none, .bool f1.dfr, .bool f1.cnt, .bool f1.lvg, iv f1.en, iv f1.pan] 143) :: (SX.row (.slice t.A (t.n - 1) t.c) 175 2 (encR (f1.runs.take (t.n - 1)))) :: (qV (.pointer none) qv (qX none o3)) :: Rs) := by rw [hm_4]; exact Sat.shutM (⟨s.tr, s.ow, s.ca, s.pa, s.re, s.us, s.bp⟩ : MSl) (hs) hS
    replace hS := hS.pickN 5 [2, 3, 0, 1, 4];obtain ⟨f_2, hf_2⟩ : ∃ z_ : FS, z_ = (⟨f1.id, f1.fn, f1.r0, f1.r1, f1.r2, f1.r3, (f1.runs.take (t.n - 1)), f1.dfr, f1.cnt, f1.lvg, f1.en, f1.pan⟩ : FS) := ⟨_, rfl⟩;replace hS : Sat w0 w ((frm bf f_2 (.pointer none)) :: (mch bm pv fuel m_4) :: (SX.blk b18 [iv z.1, iv z.2] 175) :: (qV (.pointer none) qv (qX none o3)) :: Rs) := by rw [hf_2]; exact Sat.shutF (⟨t.A, (t.n - 1), t.c⟩ : Sl) hS
    have e1 : m_4 = m1 := hm_4;have e2 : f_2 = ({ f1 with runs := f1.runs.dropLast } : FS) := by rw [hf_2, ← hdl]
    replace hS : Sat w0 w ((frm bf ({ f1 with runs := f1.runs.dropLast } : FS) (.pointer none)) :: (mch bm pv fuel m1) :: (SX.blk b18 [iv z.1, iv z.2] 175) :: (qV (.pointer none) qv (qX none o3)) :: Rs) := by rw [e1, e2] at hS; exact hS
    replace hS : Sat w0 w ((qV (.pointer (some ⟨bf, 0, none⟩)) (.pointer none) (qX (some ({ f1 with runs := f1.runs.dropLast } : FS)) f1.r1)) :: (mch bm pv fuel m1) :: (SX.blk b18 [iv z.1, iv z.2] 175) :: (qV (.pointer none) qv (qX none o3)) :: Rs) := Sat.shutPar hS;replace hS := hS.pickN 4 [1, 0, 2, 3];refine jZ (o_call (Post := callPost w0 bm pv fuel ((SX.blk b18 [iv z.1, iv z.2] 175) :: (qV (.pointer none) qv (qX none o3)) :: Rs) (.pointer (some ⟨bf, 0, none⟩)) (.pointer none) (some ({ f1 with runs := f1.runs.dropLast } : FS)) (callS P fuel d m1 z.1 z.2 (some ({ f1 with runs := f1.runs.dropLast } : FS)) f1.r1 true)) ha (by decide) (zW (op := (Op.call { callee := (Callee.value (Operand.func 95)), args := #[(Operand.tmp 124), (Operand.tmp 126), (Operand.tmp 128), (Operand.tmp 129), (Operand.const (Value.bool true))], argTypes := #[83, 3, 3, 139, 4] })) (d := some 130) (ty := 139)) rfl Try.func95 (by kernel_rfl) (IH d rfl w0 w _ m1 z.1 z.2 _ _ (some ({ f1 with runs := f1.runs.dropLast } : FS)) f1.r1 true (2 * f1.runs.dropLast.length + (x + 1)) hS (hok.less (by rw [List.length_dropLast]; omega)) (by rw [hgr.depth]; have := hgr3.depth; rw [this]; show m.depth + 1 + d = 8; omega) (by rw [hgr.depth]; have := hgr3.depth; rw [this]; show 0 ≤ m.depth + 1; omega) hzf.1 hzf.2 (fun _ => rfl) (fun q hq => by cases hq; exact hof.pan) (hPr.more [_, _])) (fun v21 w a hp20 ha => ?_) (fun c_ w hp20 => in_p (then_p (in_p (then_p (?_))))) (fun _ hp_ => hp_))
    rotate_left
    ·
      obtain ⟨m2, hres, rfl, hS9⟩ := hp20;refine ⟨ha.defers, m2, ?_, rfl, ?_⟩
      · have h9 : R2_ = .spent m2 := by rw [← hR_, hks]; simp only [runsS, hlast]; rw [hres]
        rw [hRc, h9]; rfl
      · exact hS9.pickR (l := [_, SX.blk b18 [iv z.1, iv z.2] 175, qV (.pointer none) qv (qX none o3)]) [0] (by decide) [_] rfl
    obtain ⟨m2, dd, o1, bd, hres, rfl, hS⟩ := hp20;obtain ⟨bf', hbf, hS⟩ := Sat.openPar (q := { ({ f1 with runs := f1.runs.dropLast } : FS) with r1 := o1 }) (Sat.front (l := [_, _]) hS);have hbf2 : bf' = bf := by simpa using hbf.symm
    rw [hbf2] at hS;have hS := Sat.pickR (l := [frm bf ({ f1 with runs := f1.runs.dropLast, r1 := o1 } : FS) (.pointer none), mch bm pv fuel m2, frm bd dd (.pointer (some ⟨bf, 0, none⟩))]) hS [1, 0, 2] (by decide) [mch bm pv fuel m2, frm bf ({ f1 with runs := f1.runs.dropLast, r1 := o1 } : FS) (.pointer none), frm bd dd (.pointer (some ⟨bf, 0, none⟩))] rfl;obtain ⟨hok2, hgr2, hofd⟩ := callS_ok hP fuel d m1 z.1 z.2 (some ({ f1 with runs := f1.runs.dropLast } : FS)) f1.r1 true m2 dd o1 (2 * f1.runs.dropLast.length + (x + 1)) (hok.less (by rw [List.length_dropLast]; omega)) hzf.1 hzf.2 hres;have hof2 : OkF P.length m2 ({ f1 with runs := f1.runs.dropLast, r1 := o1 } : FS) := by have g := hof.grew hgr2; exact ⟨g.id0, g.id1, g.fn0, g.fn1, g.en, g.pan, fun z hz => g.runs z (List.dropLast_subset _ hz)⟩
    have ha : Has 143 [(0, ptr bm 0), (11, ptr bf 0), (90, ptr bf 0), (91, ptr bf 0), (92, ptr bf 6), (93, .slice t.A t.n t.c), (94, iv (t.n : Int)), (95, .bool (decide ((t.n : Int) > 0))), (96, ptr bf 0), (97, ptr bf 0), (98, ptr bf 6), (99, .slice t.A t.n t.c), (100, ptr bf 0), (101, ptr bf 0), (102, ptr bf 6), (103, .slice t.A t.n t.c), (104, iv (t.n : Int)), (105, iv ((t.n : Int) - 1)), (106, .pointer (some ⟨bk t, (t.n - 1) * 2, none⟩)), (107, .agg #[iv z.1, iv z.2]), (14, ptr b18 0), (108, ptr bf 0), (109, ptr bf 0), (110, ptr bf 0), (111, ptr bf 6), (112, .slice t.A t.n t.c), (113, ptr bf 0), (114, ptr bf 0), (115, ptr bf 6), (116, .slice t.A t.n t.c), (117, iv (t.n : Int)), (118, iv ((t.n : Int) - 1)), (119, .slice t.A (t.n - 1) t.c), (120, ptr bf 0), (121, ptr bf 6), (122, ptr bm 0), (123, ptr bf 0), (124, ptr bm 0), (125, ptr b18 0), (126, iv z.1), (127, ptr b18 1), (128, iv z.2), (129, ptr bf 0), (130, ptr bd 0)] a := ha.keeps [0, 11, 90, 91, 92, 93, 94, 95, 96, 97, 98, 99, 100, 101, 102, 103, 104, 105, 106, 107, 14, 108, 109, 110, 111, 112, 113, 114, 115, 116, 117, 118, 119, 120, 121, 122, 123, 124, 125, 126, 127, 128, 129, 130] _ rfl;refine jZ (qG 131 (vs := [ptr bm 0, ptr bf 0, ptr bd 0]) ha (behind_calls w0 w _ bm bf bd pv fuel m2 ({ f1 with runs := f1.runs.dropLast, r1 := o1 } : FS) dd (.pointer none) _ P.length hS hof2 hofd) fun v22 w a hp23 ha => ?_);obtain ⟨rfl, hS⟩ := hp23;refine jY (in_n (jJ ?_));replace hS := hS.pickN 5 [0, 1, 4];obtain ⟨hb1, hb2, hb3⟩ := behind_ok hok2 hof2 hofd;have hbr : (yZ ({ f1 with runs := f1.runs.dropLast, r1 := o1 } : FS) dd).runs = f1.runs.dropLast := by unfold yZ; (repeat' split) <;> rfl
    refine ⟨_, (show 1 + k' < 1 + k by omega), k', yK m2 ({ f1 with runs := f1.runs.dropLast, r1 := o1 } : FS) dd, yZ ({ f1 with runs := f1.runs.dropLast, r1 := o1 } : FS) dd, rfl, ?_, ?_, ?_, hb3, (hgr.trans hgr2).trans hb2, ha.keeps [0, 11] _ rfl, hS⟩
    · rw [← hR_, hks]; simp only [runsS, hlast]; rw [hres]
    · rw [hbr, List.length_dropLast]; omega
    · rw [hbr]; exact hb1
  refine jV ha rfl (decide_eq_false c17) ?_
  refine wp_exit (yX (yX (in_x (jJ (wp_seq ?_)))))
  have hk0 : k = 0 := by rw [← hk, ← htn]; have := c17; omega
  refine jX [0, 1, 2] (jQ [(0, 132, ptr bm 0), (1, 133, ptr bf 0)] ha fun a ha => ?_)
  replace hS : Sat w0 w ((MB bm pv fuel m1.made m1.shared m1.depth m1.deepest s.tr s.ow s.ca s.pa s.re s.bp) :: (rE s.tr m1.trace) :: (rI s.ow m1.owners) :: (rC s.ca m1.calls) :: (rP s.pa s.us) :: (jW (yQ s.us)) :: (rV s.re m1.recs) :: (yY s.bp m1.places) :: (FB bf f1.id f1.fn f1.r0 f1.r1 f1.r2 f1.r3 t (.pointer none) f1.dfr f1.cnt f1.lvg f1.en f1.pan) :: (rQ t f1.runs) :: (qV (.pointer none) qv (qX none o3)) :: Rs) := hS
  obtain ⟨m_5, hm_5⟩ : ∃ z_ : MS, z_ = (⟨m1.made, m1.shared, m1.depth, m1.deepest, m1.trace, m1.owners, m1.calls, m1.panics, m1.recs, m1.places⟩ : MS) := ⟨_, rfl⟩
  replace hS : Sat w0 w ((mch bm pv fuel m_5) :: (FB bf f1.id f1.fn f1.r0 f1.r1 f1.r2 f1.r3 t (.pointer none) f1.dfr f1.cnt f1.lvg f1.en f1.pan) :: (rQ t f1.runs) :: (qV (.pointer none) qv (qX none o3)) :: Rs) := by rw [hm_5]; exact Sat.shutM (⟨s.tr, s.ow, s.ca, s.pa, s.re, s.us, s.bp⟩ : MSl) (hs) hS
  replace hS := hS.pickN 4 [1, 2, 0, 3]
  obtain ⟨f_3, hf_3⟩ : ∃ z_ : FS, z_ = (⟨f1.id, f1.fn, f1.r0, f1.r1, f1.r2, f1.r3, f1.runs, f1.dfr, f1.cnt, f1.lvg, f1.en, f1.pan⟩ : FS) := ⟨_, rfl⟩
  replace hS : Sat w0 w ((frm bf f_3 (.pointer none)) :: (mch bm pv fuel m_5) :: (qV (.pointer none) qv (qX none o3)) :: Rs) := by rw [hf_3]; exact Sat.shutF t hS
  have e1 : m_5 = m1 := hm_5
  have e2 : f_3 = f1 := hf_3
  replace hS := hS.pickN 3 [1, 0, 2]
  replace hS : Sat w0 w ((mch bm pv fuel m1) :: (frm bf f1 (.pointer none)) :: (qV (.pointer none) qv (qX none o3)) :: Rs) := by rw [e1, e2] at hS; exact hS
  have hR3 : R2_ = .done m1 f1 o3 := by rw [← hR_, hk0]; rfl
  refine jZ (qG 134 (vs := [ptr bm 0, ptr bf 0]) ha (finish_calls w0 w _ bm bf pv fuel m1 f1 (.pointer none) P.length _ hS hok hof) fun v24 w a hp25 ha => ?_)
  obtain ⟨rfl, hS⟩ := hp25
  obtain ⟨mB, hmB⟩ : ∃ z_ : MS, z_ = finishS m1 f1 := ⟨_, rfl⟩
  have hS := hS
  rw [← hmB] at hS
  obtain ⟨sB, hsB, hS⟩ := Sat.openM hS
  replace hS : Sat w0 w ((MB bm pv fuel mB.made mB.shared mB.depth mB.deepest sB.tr sB.ow sB.ca sB.pa sB.re sB.bp) :: (rE sB.tr mB.trace) :: (rI sB.ow mB.owners) :: (rC sB.ca mB.calls) :: (rP sB.pa sB.us) :: (jW (yQ sB.us)) :: (rV sB.re mB.recs) :: (yY sB.bp mB.places) :: (frm bf f1 (.pointer none)) :: (qV (.pointer none) qv (qX none o3)) :: Rs) := hS
  have hdB : mB.depth = m.depth + 1 := by rw [hmB]; show m1.depth = _; rw [hgr.depth]; exact hgr3.depth
  refine jY (jJ (wp_seq (jX [0, 1, 2, 3, 4, 5, 6, 7] (jQ [(0, 135, ptr bm 0), (1, 136, ptr bm 0), (2, 137, ptr bm 4)] ha fun a ha => ?_))))
  refine jU (d := 138) (b := bm) (j := 4) ha (hS.blk 0 rfl) rfl fun a ha => ?_
  refine zJ 139 (mB.depth - 1) ha fun a ha => ?_
  refine jQ [(5, 140, ptr bm 0), (6, 141, ptr bm 4)] ha fun a ha => ?_
  refine jZ (qH bm 4 (iv (mB.depth - 1)) 0 ha hS rfl rfl fun w a hS ha => ?_)
  refine jY ?_
  replace ha := ha.as [(11, ptr bf 0)] rfl
  refine jJ (wp_seq (jX [0, 1] (jQ [(0, 142, ptr bf 0), (1, 10, ptr bf 0)] ha fun a ha => ?_)))
  refine jY (jJ (wp_ret ?_))
  replace hS : Sat w0 w ((MB bm pv fuel mB.made mB.shared (mB.depth - 1) mB.deepest sB.tr sB.ow sB.ca sB.pa sB.re sB.bp) :: (rE sB.tr mB.trace) :: (rI sB.ow mB.owners) :: (rC sB.ca mB.calls) :: (rP sB.pa sB.us) :: (jW (yQ sB.us)) :: (rV sB.re mB.recs) :: (yY sB.bp mB.places) :: (frm bf f1 (.pointer none)) :: (qV (.pointer none) qv (qX none o3)) :: Rs) := hS
  obtain ⟨m_6, hm_6⟩ : ∃ z_ : MS, z_ = (⟨mB.made, mB.shared, (mB.depth - 1), mB.deepest, mB.trace, mB.owners, mB.calls, mB.panics, mB.recs, mB.places⟩ : MS) := ⟨_, rfl⟩
  replace hS : Sat w0 w ((mch bm pv fuel m_6) :: (frm bf f1 (.pointer none)) :: (qV (.pointer none) qv (qX none o3)) :: Rs) := by rw [hm_6]; exact Sat.shutM (⟨sB.tr, sB.ow, sB.ca, sB.pa, sB.re, sB.us, sB.bp⟩ : MSl) (hsB) hS
  replace hS : Sat w0 w ((mch bm pv fuel m_6) :: (frm bf f1 (.pointer none)) :: (qV (.pointer none) qv (qX none o3)) :: Rs) := hS
  refine end_tmp (t := 10) (v := .pointer (some ⟨bf, 0, none⟩)) ha (by kernel_rfl) rfl ?_
  have e9 : m_6 = { finishS m1 f1 with depth := m1.depth - 1 } := by rw [hm_6, hmB]; rfl
  rw [e9] at hS
  exact ⟨_, f1, o3, bf, by rw [hRc, hR3]; rfl, rfl, hS⟩
end SX
end Go.Proofs.Ytcbijhgepdedpaa
