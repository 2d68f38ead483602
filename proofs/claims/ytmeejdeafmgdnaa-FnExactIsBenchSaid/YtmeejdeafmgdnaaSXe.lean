/- Ends of calls whose results lie in slots or in cells. -/
import Derived.Test.YtmeejdeafmgdnaaSXp
namespace Go.Proofs.Ytmeejdeafmgdnaa
namespace SX
open Go.RowKit
section
variable {P : Program} {n : Nat} {e : Env} {a : Act} {w w0 : World} {Rs : List Asn} {fn : Func} {Z : Ending → World → Prop}
def ResIs (P : Program) (tmps : Array Value) (w : World) : ResultVar → Value → Prop
  | .tmp t, v => tmps.getD t undef = v
  | .cell t ty, v => ∃ p, tmps.getD t undef = .pointer (some p) ∧ (loadVar ty p).run P w = .ok v w
theorem resT {t : Nat} {v : Value} (h : Has n e a) (hv : lk e t = some v) : ResIs P a.tmps w (.tmp t) v := getD_held h hv
theorem resC {t ty b T i : Nat} {cs : List Value} (h : Has n e a) (hv : lk e t = some (.pointer (some ⟨b, 0, none⟩))) (hS : Sat w0 w Rs) (hi : Rs[i]? = some (SX.blk b cs T)) (ht : aggSize P ty = some cs.length) : ResIs P a.tmps w (.cell t ty) (.agg cs.toArray) := by
  refine ⟨_, getD_held h hv, run_loadVar_agg ht fun j u hu => ?_⟩
  rw [add0, Nat.zero_add]
  obtain ⟨F, h1, _⟩ := hS.at_ hi
  exact cell_blk h1.2 hu
def resOf (tmps : Array Value) : ResultVar → Sem Value
  | .tmp t => pure (tmps.getD t undef)
  | .cell a t => do loadVar t (← asAddr (tmps.getD a undef))
theorem resOf_run {tmps : Array Value} {r : ResultVar} {v : Value} (h : ResIs P tmps w r v) : (resOf tmps r).run P w = .ok v w := by
  cases r with
  | tmp t => simp only [ResIs] at h; simp [resOf, h]
  | cell t ty =>
    obtain ⟨p, h1, h2⟩ := h
    have h1' : tmps[t]?.getD undef = .pointer (some p) := by simpa using h1
    simp [resOf, h1', asAddr, h2]
theorem results_eq (fn : Func) (tmps : Array Value) : results fn tmps = (do let vs ← fn.results.mapM (resOf tmps); pure (if h : vs.size = 1 then vs[0] else .tuple vs)) := by
  unfold results
  congr 1
theorem end_res1 {r1 : ResultVar} {v1 : Value} (h : Has n e a) (hr : fn.results = #[r1]) (h1 : ResIs P a.tmps w r1 v1) (k : Z (.returned v1) w) : bodyPost P fn Z .ret a w :=
  ⟨h.defers, v1, by rw [results_eq, hr]; simp [resOf_run h1], k⟩
theorem end_res2 {r1 r2 : ResultVar} {v1 v2 : Value} (h : Has n e a) (hr : fn.results = #[r1, r2]) (h1 : ResIs P a.tmps w r1 v1) (h2 : ResIs P a.tmps w r2 v2) (k : Z (.returned (.tuple #[v1, v2])) w) : bodyPost P fn Z .ret a w :=
  ⟨h.defers, _, by rw [results_eq, hr]; simp [resOf_run h1, resOf_run h2], k⟩
theorem end_res3 {r1 r2 r3 : ResultVar} {v1 v2 v3 : Value} (h : Has n e a) (hr : fn.results = #[r1, r2, r3]) (h1 : ResIs P a.tmps w r1 v1) (h2 : ResIs P a.tmps w r2 v2) (h3 : ResIs P a.tmps w r3 v3) (k : Z (.returned (.tuple #[v1, v2, v3])) w) : bodyPost P fn Z .ret a w :=
  ⟨h.defers, _, by rw [results_eq, hr]; simp [resOf_run h1, resOf_run h2, resOf_run h3], k⟩
theorem end_res4 {r1 r2 r3 r4 : ResultVar} {v1 v2 v3 v4 : Value} (h : Has n e a) (hr : fn.results = #[r1, r2, r3, r4]) (h1 : ResIs P a.tmps w r1 v1) (h2 : ResIs P a.tmps w r2 v2) (h3 : ResIs P a.tmps w r3 v3) (h4 : ResIs P a.tmps w r4 v4) (k : Z (.returned (.tuple #[v1, v2, v3, v4])) w) : bodyPost P fn Z .ret a w :=
  ⟨h.defers, _, by rw [results_eq, hr]; simp [resOf_run h1, resOf_run h2, resOf_run h3, resOf_run h4], k⟩
end
end SX
end Go.Proofs.Ytmeejdeafmgdnaa
