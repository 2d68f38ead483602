/- What the claim FnExactIsTrace rests on, part 13 of 19; the last part proves it: for every input the law answers true, and its arguments read behind the call as before it. No condition. -/
import Derived.Test.YtcbijhgepdedpaaProg
import Derived.Test.YtcbijhgepdedpaaQIsTrace8
import Derived.Test.YtcbijhgepdedpaaQIsTrace11
namespace Go.Proofs.Ytcbijhgepdedpaa
namespace SX
open Go.RowKit
def cellsE (e : Int × Int × Int) : List Value := [.int .i64 e.1, .int .i64 e.2.1, .int .i64 e.2.2]
def cellsR (e : Int × Int) : List Value := [.int .i64 e.1, .int .i64 e.2]
def encE (l : List (Int × Int × Int)) : List Value := l.flatMap cellsE
def encR (l : List (Int × Int)) : List Value := l.flatMap cellsR
theorem qQ (x : Int × Int × Int) : (cellsE x).length = 3 := rfl
theorem xJ (x : Int × Int) : (cellsR x).length = 2 := rfl
theorem encE_length (l : List (Int × Int × Int)) : (encE l).length = l.length * 3 := flat_length qQ l
theorem encR_length (l : List (Int × Int)) : (encR l).length = l.length * 2 := flat_length xJ l
theorem encE_snoc (l : List (Int × Int × Int)) (k f v : Int) : encE l ++ [.int .i64 k, .int .i64 f, .int .i64 v] = encE (l ++ [(k, f, v)]) := by simp [encE, cellsE]
theorem encR_snoc (l : List (Int × Int)) (x y : Int) : encR l ++ [.int .i64 x, .int .i64 y] = encR (l ++ [(x, y)]) := by simp [encR, cellsR]
abbrev rE (s : Sl) (l : List (Int × Int × Int)) : Asn := SX.row (.slice s.A s.n s.c) 57 3 (encE l)
instance : Inhabited PanI := ⟨PanI.zero⟩
instance : Inhabited Sl := ⟨⟨none, 0, 0⟩⟩
theorem Sat.nilRow {w0 w : World} {Rs : List Asn} {T sz : Nat} (h : Sat w0 w Rs) : Sat w0 w (SX.row (.slice none 0 0) T sz [] :: Rs) :=
 h.new _ rfl rfl rfl (Nat.le_refl _) (fun _ _ => rfl) ⟨fun _ => False, ⟨fun k => by simp [Value.ownBlock], 0, by simp, .inl ⟨rfl, rfl⟩⟩, fun _ h => h.elim⟩
theorem row_cap {w0 w : World} {Rs : List Asn} {A : Option Addr} {n c T sz : Nat} {xs : List Value} (h : Sat w0 w Rs) (i : Nat) (hi : Rs[i]? = some (SX.row (.slice A n c) T sz xs)) : n ≤ c := by
  obtain ⟨m, h1, h2⟩ := h.row i hi
  rcases h2 with ⟨e, h0⟩ | ⟨g, cap, cur, e, _, _, h3, _⟩
  · simp only [Value.slice.injEq] at e
    obtain ⟨rfl, rfl, rfl⟩ := e;exact Nat.le_refl _
  · simp only [Value.slice.injEq] at e
    obtain ⟨rfl, rfl, rfl⟩ := e;exact h3
theorem encR_one (l : List (Int × Int)) : (encR l).all Value.oneCell' = true := by
 rw [List.all_eq_true]
 intro v hv
 obtain ⟨x, _, hx⟩ := List.mem_flatMap.1 hv
 simp only [cellsR, List.mem_cons, List.not_mem_nil, or_false] at hx
 rcases hx with rfl | rfl <;> rfl
theorem encR_take (l : List (Int × Int)) (j : Nat) : (encR l).take (j * 2) = encR (l.take j) := flat_take xJ l j
end SX
end Go.Proofs.Ytcbijhgepdedpaa
