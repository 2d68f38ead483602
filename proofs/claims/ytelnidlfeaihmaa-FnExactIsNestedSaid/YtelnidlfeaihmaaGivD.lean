/- The contract of impl.books in the printer's words. -/
import Derived.Test.YtelnidlfeaihmaaGivC
namespace Go.Proofs.Ytelnidlfeaihmaa.G
open Go.RowKit Go.Proofs.YtelnidlfeaihmaaW.PrintWords Go.Proofs.YtelnidlfeaihmaaW.PrintLast Go.Proofs.YtelnidlfeaihmaaW.PrintMore Go.Proofs.Ytelnidlfeaihmaa.SX
set_option linter.unusedVariables false
set_option linter.unusedSimpArgs false
theorem impl_books.calls (A0 : Option Addr) (c0 : Nat) (l0 : List Int) (r1 : List (List Int)) (r2 : List Int) (w : World) (hr0 : Kd.C (Kd.int .i64) w A0 l0.length l0) (hc0 : l0.length ≤ c0) (h : impl_books.f l0 = some (r1, r2)) :
    Calls Try.prog 74 #[.slice A0 l0.length c0] w fun e w' => ∃ v0_ v1_ : Value, e = .returned (.tuple #[v0_, v1_]) ∧ Kd.R (Kd.slice 3 (Kd.int .i64)) 28 w' w.heap.size (fun k_ => some k_ ≠ (v1_ : Value).ownBlock) v0_ r1 ∧ Kd.R (Kd.int .i64) 3 w' w.heap.size (fun _ => True) v1_ r2 ∧ Below w.heap.size w w' := by
  unfold impl_books.f at h
  split at h
  · rename_i he
    obtain ⟨rfl, rfl⟩ : bkOpens [] l0 = r1 ∧ bkFaults 0 [] l0 = r2 := by simpa using h
    simp only [entriesB, Bool.and_eq_true, decide_eq_true_eq, List.all_eq_true] at he
    have hb : ∀ x ∈ l0, -32767 ≤ x ∧ x ≤ 32767 := fun x hx => by
      have := he.2 x hx
      simpa [entryB] using this
    refine (books_sat w ⟨A0, l0.length, c0⟩ l0 ⟨rfl, hc0, hr0⟩ he.1 hb).mono ?_
    intro e w' hp
    cases e with
    | returned r =>
      obtain ⟨v5, v6, outs, outl, us, rfl, ⟨hlen, hmem⟩, rfl, hS⟩ := hp
      refine ⟨v5.v, v6.v, rfl, ?_, Sat.kdI hS 1 rfl (fun _ _ => trivial), hS.below⟩
      obtain ⟨F, ⟨h1, n, hn⟩, h3⟩ := hS.at_ (i := 0) rfl
      have hl : outs.length = n := by have := hn.1; simpa [encS] using this
      subst hl
      refine ⟨Sat.away2 hS 0 1 (by omega) rfl rfl, encS outs, ?_, by show _ = _ * 1; simp [encS, hlen], fun j p hj => ?_⟩
      · rw [← hlen]
        refine ⟨by show _ = _ * 1; simp [encS], ?_⟩
        rcases hn.2 with hn' | ⟨g, cap, cur, e, _, rest⟩
        · exact .inl hn'
        · refine .inr ⟨g, cap, cur, e, ?_, rest⟩
          exact (h3 g ((h1 g).2 (by rw [e]; rfl))).1
      · have hjl : j < outs.length := by rw [hlen]; exact (List.getElem?_eq_some_iff.1 hj).1
        have hm : (outs[j], p) ∈ us := hmem _ (by
          refine List.mem_of_getElem? (i := j) ?_
          rw [List.getElem?_zip_eq_some]
          exact ⟨List.getElem?_eq_getElem hjl, hj⟩)
        refine ⟨outs[j].v, ?_, Sat.kdIs hS 2 rfl hm fun k hk => ⟨Sat.away hS 2 1 (by omega) rfl rfl hm k hk, Sat.away hS 2 0 (by omega) rfl rfl hm k hk⟩⟩
        show (List.drop (j * 1) (encS outs)).take 1 = [outs[j].v]
        rw [Nat.mul_one, encS, List.drop_eq_getElem_cons (by simpa using hjl)]
        simp
    | panicked c => exact hp.elim
    | outgrown => exact hp.elim
  · cases h
end Go.Proofs.Ytelnidlfeaihmaa.G
