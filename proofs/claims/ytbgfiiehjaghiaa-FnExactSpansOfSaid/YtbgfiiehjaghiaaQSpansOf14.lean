/- What the claim FnExactSpansOf rests on, part 14 of 22; the last part proves it: for every input the law answers true, and its arguments read behind the call as before it. No condition. -/
import Derived.Test.YtbgfiiehjaghiaaProg
import Derived.Test.YtbgfiiehjaghiaaQSpansOf8
import Derived.Test.YtbgfiiehjaghiaaQSpansOf12
namespace Go.Proofs.Ytbgfiiehjaghiaa
namespace SX
open Go.RowKit
def cellsR (e : Int × Int) : List Value := [.int .i64 e.1, .int .i64 e.2]
def encR (l : List (Int × Int)) : List Value := l.flatMap cellsR
theorem jH (x : Int × Int) : (cellsR x).length = 2 := rfl
theorem encR_length (l : List (Int × Int)) : (encR l).length = l.length * 2 := flat_length jH l
theorem encR_snoc (l : List (Int × Int)) (x y : Int) : encR l ++ [.int .i64 x, .int .i64 y] = encR (l ++ [(x, y)]) := by simp [encR, cellsR]
instance : Inhabited PanI := ⟨PanI.zero⟩
instance : Inhabited Sl := ⟨⟨none, 0, 0⟩⟩
theorem Sat.nilRow {w0 w : World} {Rs : List Asn} {T sz : Nat} (h : Sat w0 w Rs) : Sat w0 w (SX.row (.slice none 0 0) T sz [] :: Rs) :=
 h.new _ rfl rfl rfl (Nat.le_refl _) (fun _ _ => rfl) ⟨fun _ => False, ⟨fun k => by simp [Value.ownBlock], 0, by simp, .inl ⟨rfl, rfl⟩⟩, fun _ h => h.elim⟩
end SX
end Go.Proofs.Ytbgfiiehjaghiaa
