/- What the claim FnExactMendEntries rests on, part 14 of 23; the last part proves it: for every input the law answers true, and its arguments read behind the call as before it. No condition. -/
import Derived.Test.YtbgfiiehjaghiaaProg
import Derived.Test.YtbgfiiehjaghiaaQMendEntries8
import Derived.Test.YtbgfiiehjaghiaaQMendEntries12
namespace Go.Proofs.Ytbgfiiehjaghiaa
namespace SX
open Go.RowKit
abbrev rI (s : Sl) (l : List Int) : Asn := SX.row (.slice s.A s.n s.c) 3 1 (encI l)
instance : Inhabited PanI := ⟨PanI.zero⟩
instance : Inhabited Sl := ⟨⟨none, 0, 0⟩⟩
theorem Sat.nilRow {w0 w : World} {Rs : List Asn} {T sz : Nat} (h : Sat w0 w Rs) : Sat w0 w (SX.row (.slice none 0 0) T sz [] :: Rs) :=
 h.new _ rfl rfl rfl (Nat.le_refl _) (fun _ _ => rfl) ⟨fun _ => False, ⟨fun k => by simp [Value.ownBlock], 0, by simp, .inl ⟨rfl, rfl⟩⟩, fun _ h => h.elim⟩
end SX
end Go.Proofs.Ytbgfiiehjaghiaa
