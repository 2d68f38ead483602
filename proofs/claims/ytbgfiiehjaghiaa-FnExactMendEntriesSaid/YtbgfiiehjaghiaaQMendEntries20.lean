/- What the claim FnExactMendEntries rests on, part 20 of 23; the last part proves it: for every input the law answers true, and its arguments read behind the call as before it. No condition. -/
import Derived.Test.YtbgfiiehjaghiaaProg
import Derived.Shelf.Abstract
import Derived.WalkKit
import Derived.OwnWalkIn
import Derived.TacticsInMore
import Derived.LoopNIn
import Derived.LoopIn
import Derived.Test.YtbgfiiehjaghiaaQMendEntries15
set_option linter.unusedSimpArgs false
set_option linter.unusedVariables false
set_option maxRecDepth 100000
set_option maxHeartbeats 4000000
section
namespace Go.Proofs.Ytbgfiiehjaghiaa.G
open Go.RowKit Go.Shelf Go.Proofs.Ytbgfiiehjaghiaa.SX
attribute [local go_sem] Oper.semAt_some
abbrev At2 (l : List Int) := { p : Nat × Int // l[p.1]? = some p.2 }
def bwd (l : List Int) (k : Nat) : List (Nat × Int) := (List.range k).map fun j => (l.length - 1 - j, l.getD (l.length - 1 - j) 0)
theorem bwd_succ (l : List Int) (k : Nat) : bwd l (k + 1) = bwd l k ++ [(l.length - 1 - k, l.getD (l.length - 1 - k) 0)] := by simp [bwd, List.range_succ]
theorem bwd_length (l : List Int) (k : Nat) : (bwd l k).length = k := by simp [bwd]
def sv (s : Sl) : Value := .slice s.A s.n s.c
def KpB (b : Nat) (s : Sl) (l : List Int) (A B : World) : Prop := (A.cell? ⟨b, 0, none⟩ = some (sv s) → B.cell? ⟨b, 0, none⟩ = some (sv s)) ∧ ∀ j, j < l.length → A.cell? ⟨bk s, of_ s + j, none⟩ = some (.int .i64 (l.getD j 0)) → B.cell? ⟨bk s, of_ s + j, none⟩ = some (.int .i64 (l.getD j 0))
theorem KpB.refl {b : Nat} {s : Sl} {l : List Int} (A : World) : KpB b s l A A := ⟨id, fun _ _ => id⟩
theorem KpB.trans {b : Nat} {s : Sl} {l : List Int} {A B C : World} (h : KpB b s l A B) (k : KpB b s l B C) : KpB b s l A C := ⟨fun x => k.1 (h.1 x), fun j hj x => k.2 j hj (h.2 j hj x)⟩
theorem KpB.put {b : Nat} {s : Sl} {l : List Int} (W : World) (i : Nat) (o o' : Obj) (h : W.heap[i]? = some o) (ho : o.isCells = false) : KpB b s l W (W.putObj i o') :=
 ⟨fun x => cell_kept x (grownBy_putObj' W i o') (fun r e => by cases e; exact ⟨o, h, ho⟩), fun j hj x => cell_kept x (grownBy_putObj' W i o') (fun r e => by cases e; exact ⟨o, h, ho⟩)⟩
theorem back1_in (n l Bs : Nat) (s : Sl) (zs : List Int) (hn : 1 ≤ n) (hlen : s.n = zs.length) (hbig : zs.length ≤ 1000000) (hA : 0 < zs.length → s.A = some ⟨bk s, of_ s, none⟩) (J Jx : List (At2 zs) → World → Prop)
    (hY : ∀ pre x W, J pre W → pre.length < zs.length → YieldAt Fence.wide (n - 1) Try.prog l #[.int .i64 (x.1.1 : Int), .int .i64 x.1.2] W fun e W' =>
      (e = .returned (.bool true) ∧ J (pre ++ [x]) W' ∧ KpB Bs s zs W W') ∨ (e = .returned (.bool false) ∧ Jx (pre ++ [x]) W'))
    (W : World) (hBs : W.cell? ⟨Bs, 0, none⟩ = some (.slice s.A s.n s.c)) (hc : ∀ j, j < zs.length → W.cell? ⟨bk s, of_ s + j, none⟩ = some (.int .i64 (zs.getD j 0))) (h0 : J [] W) :
    CallsIn Fence.wide n Try.prog 122 #[.func (.yield l) #[] #[], .pointer (some ⟨Bs, 0, none⟩)] W fun e W' => (∃ v, e = .returned v) ∧
      ((∃ ys : List (At2 zs), ys.map Subtype.val = bwd zs zs.length ∧ J ys W') ∨ (∃ pre, True ∧ Jx pre W')) := by
  refine callsIn_of_wp Try.func122 rfl trivial ?_ rfl
  simp only [Try.ntmps122, List.size_toArray, List.length_cons, List.length_nil, Nat.reduceAdd, Nat.reduceSub, Array.replicate_succ, Array.replicate_zero, List.push_toArray, List.append_toArray, List.nil_append, List.cons_append]
  gi_wp2
  gi_loopw [3] (fun i wr => ∃ (k : Nat) (ys : List (At2 zs)), k ≤ zs.length ∧ i = .int .i64 ((zs.length : Int) - 1 - k) ∧ ys.map Subtype.val = bwd zs k ∧ J ys wr ∧ KpB Bs s zs W wr)
    (fun i _ => (intOf i + 1).toNat)
  case atStart =>
    refine ⟨0, [], Nat.zero_le _, ?_, rfl, h0, KpB.refl _⟩
    congr 1
    omega
  case round =>
    obtain ⟨k, ys, hk, rfl, hys, hJs, hnx⟩ := hrel;have hBr := hnx.1 hBs
    by_cases hlt : k < zs.length
    · obtain ⟨j, hj⟩ : ∃ j : Nat, j + 1 + k = zs.length := ⟨zs.length - 1 - k, by omega⟩
      have e1 : ((zs.length : Int) - 1 - k) = (j : Int) := by omega
      rw [e1];have hjl : j < zs.length := by omega
      obtain ⟨v, hv⟩ : ∃ v, zs.getD j 0 = v := ⟨_, rfl⟩;have hAt : zs[j]? = some v := by rw [← hv, List.getD_eq_getElem?_getD, List.getElem?_eq_getElem hjl]; rfl
      have hyl : ys.length = k := by have := congrArg List.length hys; rw [List.length_map, bwd_length] at this; exact this
      obtain ⟨fn, tmps, assign, body, hy, hR⟩ := hY ys ⟨(j, v), hAt⟩ wr hJs (by rw [hyl]; exact hlt)
      dsimp only at hy
      have hcx' := hnx.2 j hjl (hc j hjl);rw [hv] at hcx';have hBr2 : wr.cell? ⟨Bs, 0, none⟩ = some (.slice (some ⟨bk s, of_ s, none⟩) zs.length s.c) := by rw [← hA (by omega), ← hlen]; exact hBr
      clear hBr
      gi_wp2
      refine hR.mono ?_
      rintro e W3 (⟨rfl, hJ3, hk3⟩ | ⟨rfl, hJx3⟩)
      · gi_wp2
        go_roundw
        case rel => exact ⟨k + 1, ys ++ [⟨(j, v), hAt⟩], by omega, by simp; omega, by rw [List.map_append, hys, bwd_succ, show zs.length - 1 - k = j by omega, hv]; rfl, hJ3, hnx.trans hk3⟩
        case measure => simp [intOf]
      · gi_wp2
        refine bodyPost_ret (results_none rfl _ _ _) rfl ?_;exact ⟨⟨_, rfl⟩, .inr ⟨_, trivial, hJx3⟩⟩
    · obtain rfl : k = zs.length := by omega
      rw [show ((zs.length : Int) - 1 - (zs.length : Nat)) = -1 by omega]
      gi_wp2
      go_end0
      exact ⟨⟨_, rfl⟩, .inl ⟨_, hys, hJs⟩⟩
theorem back_stops {w : World} {Bs : Nat} {s : Sl} {zs : List Int} (hB : Bs < w.heap.size) (hBs : w.heap[Bs]? = some (.cells #[.slice s.A s.n s.c] 37 (0, 0))) (hr : RdI w s zs) (hbig : zs.length ≤ 1000000) :
  SeqStopsK Fence.wide 8 Try.prog 122 #[.pointer (some ⟨Bs, 0, none⟩)] (fun x : At2 zs => #[.int .i64 (x.1.1 : Int), .int .i64 x.1.2]) (KpB Bs s zs) (fun ys => ys.map Subtype.val = bwd zs zs.length) (fun _ => True) zs.length w := fun l J Jx W hW _ _ hY h0 => by
 have hc0 : w.cell? ⟨Bs, 0, none⟩ = some (.slice s.A s.n s.c) := cell_blk (cs := [.slice s.A s.n s.c]) hBs rfl
 have hr2 := hr.below (show Below w.heap.size w W from hW)
 refine back1_in 8 l Bs s zs (by omega) hr.len hbig (fun hp => (hr.at_ hp).1) J Jx hY W ((hW.cell (p := ⟨Bs, 0, none⟩) hB).trans hc0) (fun j hj => (hr2.at_ hj).2) h0
theorem back_sat {w0 w : World} {Rs : List Asn} {Bs : Nat} {s : Sl} {zs : List Int} (hS : Sat w0 w Rs) (i j : Nat) (hi : Rs[i]? = some (SX.blk Bs [.slice s.A s.n s.c] 37)) (hj : Rs[j]? = some (SX.row (.slice s.A s.n s.c) 3 1 (encI zs))) (hbig : zs.length ≤ 1000000) :
  SeqStopsK Fence.wide 8 Try.prog 122 #[.pointer (some ⟨Bs, 0, none⟩)] (fun x : At2 zs => #[.int .i64 (x.1.1 : Int), .int .i64 x.1.2]) (KpB Bs s zs) (fun ys => ys.map Subtype.val = bwd zs zs.length) (fun _ => True) zs.length w := by
 have hb := hS.blk i hi
 exact back_stops (Array.getElem?_eq_some_iff.1 hb).1 hb (hS.rdRow (s := s) j hj) hbig
theorem KpB.sat {w0 A w : World} {Rs : List Asn} {Bs : Nat} {s : Sl} {zs : List Int} (hS : Sat w0 w Rs) (i j : Nat) (hi : Rs[i]? = some (SX.blk Bs [.slice s.A s.n s.c] 37)) (hj : Rs[j]? = some (SX.row (.slice s.A s.n s.c) 3 1 (encI zs))) : KpB Bs s zs A w :=
 ⟨fun _ => cell_blk (cs := [.slice s.A s.n s.c]) (hS.blk i hi) rfl, fun k hk _ => ((hS.rdRow (s := s) j hj).at_ hk).2⟩
end Go.Proofs.Ytbgfiiehjaghiaa.G
end
