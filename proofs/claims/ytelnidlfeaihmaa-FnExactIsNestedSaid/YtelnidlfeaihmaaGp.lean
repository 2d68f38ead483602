/- What the functions that stand for themselves compute, as plain functions. -/
namespace Go.Proofs.Ytelnidlfeaihmaa.G
def entryB (n : Int) : Bool := decide (-32767 ≤ n) && decide (n ≤ 32767)
def entriesB (l : List Int) : Bool := decide (l.length ≤ 60) && l.all entryB
/-- One entry: what is open behind it. -/
def bkStep (o : List Int) (n : Int) : List Int := if 0 < n then o.erase (max n (-n)) ++ [n] else o.erase (max n (-n))
def bkBad (o : List Int) (n : Int) : Bool := decide (n ≠ 0) && (decide (0 < n) == o.contains (max n (-n)))
def bkOpens : List Int → List Int → List (List Int)
  | _, [] => []
  | o, n :: l => bkStep o n :: bkOpens (bkStep o n) l
def bkFaults : Int → List Int → List Int → List Int
  | _, _, [] => []
  | i, o, n :: l => (if bkBad o n then [i] else []) ++ bkFaults (i + 1) (bkStep o n) l
/-- Each entry that shuts one shuts the one that was opened last: os: what is open behind each entry; prev: behind the one before. -/
def bkNest : List Int → List (List Int) → List Int → Bool
  | prev, o :: os, n :: l => (decide (0 ≤ n) || prev == o ++ [-n]) && bkNest o os l
  | _, _, _ => true
def bkNested : List (List Int) → List Int → Bool
  | o :: os, _ :: l => bkNest o os l
  | _, _ => true
def bkTidy (l : List Int) : Bool := (bkFaults 0 [] l).isEmpty && ((bkOpens [] l).getLastD []).isEmpty
def bkKeep : Int → List Int → List Int → List Int
  | _, _, [] => []
  | i, fs, n :: l => (if fs.contains i then [] else [n]) ++ bkKeep (i + 1) fs l
def bkMend (l : List Int) : List Int := let k := bkKeep 0 (bkFaults 0 [] l) l; k ++ (((bkOpens [] k).getLastD []).reverse.map fun n => -n)
def bkNestS : List Int → List Int → Bool
  | o, n :: l => (decide (0 ≤ n) || o.getLast? == some (-n)) && bkNestS (bkStep o n) l
  | _, _ => true
def bkTidyS (l : List Int) : Bool := (l.foldl bkStep []).isEmpty && (bkFaults 0 [] l).isEmpty
end Go.Proofs.Ytelnidlfeaihmaa.G
