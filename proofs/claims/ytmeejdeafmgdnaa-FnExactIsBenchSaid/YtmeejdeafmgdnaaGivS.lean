/- Steps that are copied from one type to the other: what toStepS comes to. -/
import Derived.Test.YtmeejdeafmgdnaaGx3
import Derived.Test.YtmeejdeafmgdnaaSXr
namespace Go.Proofs.Ytmeejdeafmgdnaa.G
open Go.RowKit Go.Proofs.Ytmeejdeafmgdnaa.SX Go.Proofs.YtmeejdeafmgdnaaW.PrintWords Go.Proofs.YtmeejdeafmgdnaaW.PrintLast Go.Proofs.YtmeejdeafmgdnaaW.PrintMore
set_option linter.unusedVariables false
set_option linter.unusedSimpArgs false
theorem w64 {x : Int} (h0 : -9223372036854775808 ≤ x) (h1 : x ≤ 9223372036854775807) : wrap64 x = x := by unfold wrap64; omega
def toS (x : S126) : S76 := ⟨x.f0, x.f1, x.f2⟩
theorem toStepS_l0 (l : List S126) (hl : l.length ≤ 1048576) : ∀ d i, i + d = l.length → ∀ k, d < k → laws_toStepS.l0 k l ((l.take i).map toS ++ List.replicate d z76) (i : Int) = some (l.map toS) := by
  intro d
  induction d with
  | zero =>
    intro i hi k hk
    obtain ⟨k, rfl⟩ : ∃ m, k = m + 1 := ⟨k - 1, by omega⟩
    have : i = l.length := by omega
    subst this
    simp only [laws_toStepS.l0]
    rw [if_neg (by omega)]
    simp
  | succ d ih =>
    intro i hi k hk
    obtain ⟨k, rfl⟩ : ∃ m, k = m + 1 := ⟨k - 1, by omega⟩
    have hlt : i < l.length := by omega
    have hrd : rd_T126 l (i : Int) = l[i] := by simp [rd_T126, List.getD, hlt]
    simp only [laws_toStepS.l0, laws_toStep.f, Option.bind_some]
    rw [if_pos (by omega), if_pos (by omega), if_pos (by simp; omega), hrd, w64 (by omega) (by omega), show ((i : Int) + 1) = ((i + 1 : Nat) : Int) from rfl]
    have e : ((l.take i).map toS ++ List.replicate (d + 1) z76).set (i : Int).toNat ⟨l[i].f0, l[i].f1, l[i].f2⟩ = (l.take (i + 1)).map toS ++ List.replicate d z76 := by
      have h1 : (i : Int).toNat = i := by omega
      have h2 : ((l.take i).map toS).length = i := by rw [List.length_map, List.length_take]; omega
      rw [h1, List.set_append_right _ _ (by omega), h2, Nat.sub_self, List.replicate_succ, List.set_cons_zero, List.take_succ_eq_append_getElem hlt, List.map_append, List.append_assoc]
      rfl
    rw [e]
    exact ih (i + 1) (by omega) k (by omega)
theorem toStepS_f (l : List S126) (hl : l.length ≤ 1048576) (k : Nat) (hk : l.length < k) : laws_toStepS.f k l = some (l.map toS) := by
  have := toStepS_l0 l hl l.length 0 (by omega) k hk
  unfold laws_toStepS.f
  rw [if_pos (by omega), if_pos (by omega)]
  simpa using this
end Go.Proofs.Ytmeejdeafmgdnaa.G
