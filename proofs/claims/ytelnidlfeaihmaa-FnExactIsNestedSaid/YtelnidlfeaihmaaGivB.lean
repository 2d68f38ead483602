/- Copies, cuts and searches of rows of whole numbers, as steps over separate pieces of memory. -/
import Derived.Test.YtelnidlfeaihmaaGivA
import Derived.Test.YtelnidlfeaihmaaGx6
import Derived.Test.YtelnidlfeaihmaaSXr
namespace Go.Proofs.Ytelnidlfeaihmaa.G
open Go.RowKit Go.Shelf Go.Lib Go.Proofs.YtelnidlfeaihmaaW.PrintWords Go.Proofs.YtelnidlfeaihmaaW.PrintLast Go.Proofs.YtelnidlfeaihmaaW.PrintMore Go.Proofs.Ytelnidlfeaihmaa.SX
set_option linter.unusedVariables false
set_option linter.unusedSimpArgs false
section
variable {w0 w : World} {Rs : List Asn} {s : Sl} {l : List Int}
theorem clone_sat (hS : Sat w0 w Rs) (hr : RdI w s l) (hlen : l.length ≤ 1000000) :
    Calls Try.prog 79 #[s.v] w (Ret fun r w' => ∃ s' : Sl, r = s'.v ∧ Sat w0 w' (SX.row s'.v 3 1 (SX.encI l) :: Rs)) := by
  have h := slices_Clone_int_int.calls s.A s.c l l w hr.rd hr.le (by simp [slices_Clone_int_int.f, hlen])
  rw [← hr.len] at h
  refine h.mono ?_
  rintro e w' ⟨v, rfl, hR, hb⟩
  have ho := Kd.own_of_R hR
  obtain ⟨s', rfl, _⟩ := ownsRow_sl ho
  exact ⟨s', rfl, hS.made hb ho⟩

theorem delete_sat (hS : Sat w0 w (SX.row s.v 3 1 (SX.encI l) :: Rs)) (i : Nat) (hi : i < l.length) (hlen : l.length ≤ 1000000) :
    Calls Try.prog 93 #[s.v, .int .i64 (i : Int), .int .i64 ((i : Int) + 1)] w (Ret fun r w' => ∃ s' : Sl, r = s'.v ∧ Sat w0 w' (SX.row s'.v 3 1 (SX.encI (l.eraseIdx i)) :: Rs)) := by
  obtain ⟨n, hown⟩ := hS.row 0 rfl
  have hne : s.v ≠ .slice none 0 0 := by
    intro e
    rcases hown.2 with ⟨_, h0⟩ | ⟨g, cap, cur, e', _⟩
    · have := hown.1
      simp [SX.encI] at this
      omega
    · rw [e] at e'
      cases e'
  obtain ⟨g, cap, e0, _, hg, hcap, hmax, hl, hH⟩ := holds_of_ownsRow hown hne
  subst hl
  obtain ⟨A, sn, sc⟩ := s
  simp only [Sl.v, Value.slice.injEq] at e0
  obtain ⟨rfl, rfl, rfl⟩ := e0
  have h := Any.slices_Delete_int l93 g 0 sc i (i + 1) l w hH hcap (by simp only [maxLen] at hmax; omega) (by omega) (by omega)
  refine Calls.mono h ?_
  rintro e w' ⟨rfl, q, rfl⟩
  have he : (l.take i ++ l.drop (i + 1)) = l.eraseIdx i := (List.eraseIdx_eq_take_drop_succ l i).symm
  have hk : (l.eraseIdx i).length = l.length - 1 := by rw [List.length_eraseIdx]; simp [hi]
  have hz : (l.take i ++ l.drop (i + 1) ++ List.replicate (i + 1 - i) (0 : Int)).length = l.length := by
    rw [List.length_append, he, hk]
    simp
    omega
  have ho' := ownsRow_putRow (q := q) (k := l.length - 1) hown hz (Nat.sub_le _ _)
  refine ⟨⟨some ⟨g, 0, none⟩, l.length - 1, sc⟩, by simp, ?_⟩
  refine hS.upd (i := 0) (R := SX.row (.slice (some ⟨g, 0, none⟩) l.length sc) 3 1 (SX.encI l)) rfl (SX.row (.slice (some ⟨g, 0, none⟩) (l.length - 1) sc) 3 1 (SX.encI (l.eraseIdx i))) rfl rfl rfl (by simp [Go.Sort.putRow, Go.Sort.mapBlock, Go.Sort.ahead]) fun F hF => ⟨F, ⟨fun k => ?_, l.length - 1, ?_⟩, fun _ hb => .inl hb, fun b _ hF' => ?_⟩
  · rw [hF.1 k]
    simp [Value.ownBlock]
  · have e2 : SX.encI (l.eraseIdx i) = ((l.take i ++ l.drop (i + 1) ++ List.replicate (i + 1 - i) (0 : Int)).take (l.length - 1)).map (Value.int .i64) := by
      rw [he, ← hk, List.take_left']
      · rfl
      · rfl
    rw [e2]
    exact ho'
  · have hgb : g ≠ b := fun e => hF' ((hF.1 b).2 (by simp [Value.ownBlock, e]))
    simp [Go.Sort.putRow, Go.Sort.mapBlock, Go.Sort.ahead, Array.getElem?_modify, hgb]

def idxI (l : List Int) (x : Int) : Int := if x ∈ l then (l.idxOf x : Int) else -1
theorem index_f (l : List Int) (x : Int) (hlen : l.length ≤ 1000000) : ∀ d i, i + d = l.length → x ∉ l.take i → ∀ k, d < k → slices_Index_int_int.l0 k l x (l.length : Int) (i : Int) = some (idxI l x) := by
  intro d
  induction d with
  | zero =>
    intro i hi hn k hk
    obtain ⟨k, rfl⟩ : ∃ m, k = m + 1 := ⟨k - 1, by omega⟩
    have : i = l.length := by omega
    subst this
    simp only [slices_Index_int_int.l0]
    rw [if_neg (by omega), idxI, if_neg (by simpa using hn)]
  | succ d ih =>
    intro i hi hn k hk
    obtain ⟨k, rfl⟩ : ∃ m, k = m + 1 := ⟨k - 1, by omega⟩
    have hlt : i < l.length := by omega
    simp only [slices_Index_int_int.l0]
    rw [if_pos (by omega), if_pos (by omega), if_pos (by omega)]
    have hrd : rd l (i : Int) = l[i] := by simp [rd, List.getD, hlt]
    rw [hrd]
    by_cases hx : x = l[i]
    · rw [if_pos hx, idxI, if_pos (by rw [hx]; exact List.getElem_mem hlt)]
      congr 1
      have h1 : l = l.take i ++ l[i] :: l.drop (i + 1) := by
        rw [List.getElem_cons_drop hlt, List.take_append_drop]
      have h2 : (l.take i ++ l[i] :: l.drop (i + 1)).idxOf x = i := by
        rw [List.idxOf_append, if_neg hn, hx, List.idxOf_cons_self, List.length_take]
        omega
      rw [← h1] at h2
      rw [h2]
    · rw [if_neg hx]
      have e : wrap64 ((i : Int) + 1) = ((i + 1 : Nat) : Int) := by unfold wrap64; omega
      rw [e]
      refine ih (i + 1) (by omega) ?_ k (by omega)
      rw [List.take_succ_eq_append_getElem hlt, List.mem_append]
      simp [hn, hx]
theorem index_sat (hS : Sat w0 w Rs) (hr : RdI w s l) (hlen : l.length ≤ 1000000) (x : Int) :
    Calls Try.prog 67 #[s.v, .int .i64 x] w (Ret fun r w' => r = .int .i64 (idxI l x) ∧ Sat w0 w' Rs) := by
  have h := slices_Index_int_int.calls (l.length + 1) s.A s.c l x (idxI l x) w hr.rd hr.le (index_f l x hlen l.length 0 (by omega) (by simp) _ (by omega))
  rw [← hr.len] at h
  refine h.mono ?_
  rintro e w' ⟨rfl, hd⟩
  obtain ⟨q, rfl⟩ := hd.out
  exact ⟨rfl, hS.grows ⟨rfl, rfl, rfl, Nat.le_refl _, fun _ _ => rfl⟩⟩
end
end Go.Proofs.Ytelnidlfeaihmaa.G
