/- What the claim FnExactErrorsOfRun rests on, part 1 of 22; the last part proves it: for every input the law answers true, and its arguments read behind the call as before it. No condition. -/

namespace Go.Proofs.Ytcbijhgepdedpaa.G
def regB (x : Int) : Bool := decide (0 ≤ x) && decide (x ≤ 3)
def numB (x : Int) : Bool := decide (-32768 ≤ x) && decide (x ≤ 32767)
def stepB (fs k a b : Int) : Bool :=
 (decide (1 ≤ k) && decide (k ≤ 13)) &&
 (if k = 4 ∨ k = 5 then decide (0 ≤ a) && decide (a ≤ fs - 1) else if k = 11 then decide (0 ≤ a) && decide (a ≤ 8) else if k = 10 then decide (a = 0) else regB a) &&
 (if k = 1 then numB b else if k = 2 ∨ k = 4 ∨ k = 5 ∨ k = 11 then regB b else decide (b = 0))
end Go.Proofs.Ytcbijhgepdedpaa.G
