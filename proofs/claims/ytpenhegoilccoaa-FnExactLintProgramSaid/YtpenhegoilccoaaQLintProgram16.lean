/- What the claim FnExactLintProgram rests on, part 16 of 29; the last part proves it: for every input the law answers true, and its arguments read behind the call as before it. No condition. -/
import Derived.Test.YtpenhegoilccoaaProg
import Derived.Test.YtpenhegoilccoaaQLintProgram11
import Derived.Test.YtpenhegoilccoaaQLintProgram15
namespace Go.Proofs.Ytpenhegoilccoaa
namespace SX
open Go.RowKit
def cellsE (e : Int × Int × Int) : List Value := [.int .i64 e.1, .int .i64 e.2.1, .int .i64 e.2.2]
def encE (l : List (Int × Int × Int)) : List Value := l.flatMap cellsE
theorem qU (x : Int × Int × Int) : (cellsE x).length = 3 := rfl
theorem encE_length (l : List (Int × Int × Int)) : (encE l).length = l.length * 3 := flat_length qU l
theorem encE_snoc (l : List (Int × Int × Int)) (k f v : Int) : encE l ++ [.int .i64 k, .int .i64 f, .int .i64 v] = encE (l ++ [(k, f, v)]) := by simp [encE, cellsE]
abbrev rI (s : Sl) (l : List Int) : Asn := SX.row (.slice s.A s.n s.c) 3 1 (encI l)
instance : Inhabited PanI := ⟨PanI.zero⟩
instance : Inhabited Sl := ⟨⟨none, 0, 0⟩⟩
structure RdBody (w : World) (s : Sl) (b : List Stp) : Prop where
 len : s.n = b.length
 A : 0 < b.length → s.A = some ⟨bk s, of_ s, none⟩
 k : ∀ (j : Nat) (x : Stp), b[j]? = some x → w.cell? ⟨bk s, of_ s + j * 3, none⟩ = some (.int .i64 x.k)
 a : ∀ (j : Nat) (x : Stp), b[j]? = some x → w.cell? ⟨bk s, of_ s + j * 3 + 1, none⟩ = some (.int .i64 x.a)
 b : ∀ (j : Nat) (x : Stp), b[j]? = some x → w.cell? ⟨bk s, of_ s + j * 3 + 2, none⟩ = some (.int .i64 x.b)
structure RdProg (w : World) (pv : Sl) (sbs : List Sl) (P : List (List Stp)) : Prop where
 len : pv.n = P.length
 A : 0 < P.length → pv.A = some ⟨bk pv, of_ pv, none⟩
 rows : ∀ (i : Nat) (b : List Stp), P[i]? = some b → ∃ s : Sl, sbs[i]? = some s ∧ w.cell? ⟨bk pv, of_ pv + i, none⟩ = some s.v ∧ RdBody w s b
def Keeps (w0 : World) (Rs : List Asn) (φ : World → Prop) : Prop := ∀ w, Sat w0 w Rs → φ w
theorem Keeps.more {w0 : World} {Rs : List Asn} {φ : World → Prop} (h : Keeps w0 Rs φ) (l : List Asn) : Keeps w0 (l ++ Rs) φ := fun w hS => h w (by
 have h1 : Sat w0 w (qW l :: Rs) := hS.merge
 obtain ⟨hb, F, h2, h3, h4⟩ := h1
 exact ⟨hb, fun j b => F (j + 1) b, fun i R hi => h2 (i + 1) R (by simpa using hi), fun i j b hi hj => by have := h3 _ _ b hi hj; omega, fun i b hi => h4 _ b hi⟩)
theorem RdProg.body {w0 : World} {Rs : List Asn} {pv : Sl} {sbs : List Sl} {P : List (List Stp)} (h : Keeps w0 Rs (fun w => RdProg w pv sbs P)) {w : World} (hS : Sat w0 w Rs) {i : Nat} {b : List Stp} (hb : P[i]? = some b) :
  ∃ s : Sl, s.n = b.length ∧ (0 < b.length → s.A = some ⟨bk s, of_ s, none⟩) ∧ Keeps w0 Rs (fun w => w.cell? ⟨bk pv, of_ pv + i, none⟩ = some s.v ∧ RdBody w s b) := by
 obtain ⟨s, h1, h2, h3⟩ := (h w hS).rows i b hb
 refine ⟨s, h3.len, h3.A, fun w' hS' => ?_⟩
 obtain ⟨s', k1, k2, k3⟩ := (h w' hS').rows i b hb
 rw [h1] at k1
 injection k1 with k1
 subst k1
 exact ⟨k2, k3⟩
theorem RdBody.load {w : World} {s : Sl} {b : List Stp} (h : RdBody w s b) {j : Nat} {x : Stp} (hx : b[j]? = some x) : (loadVar 72 ⟨bk s, of_ s + j * 3, none⟩).run Try.prog w = .ok (.agg #[.int .i64 x.k, .int .i64 x.a, .int .i64 x.b]) w :=
 run_loadVar_agg (vs := [.int .i64 x.k, .int .i64 x.a, .int .i64 x.b]) (by kernel_rfl) fun i u hu => by
  match i, hu with
  | 0, hu => rw [add0]; rw [← Option.some.inj hu]; exact h.k j x hx
  | 1, hu => rw [add0]; rw [← Option.some.inj hu]; exact h.a j x hx
  | 2, hu => rw [add0]; rw [← Option.some.inj hu]; exact h.b j x hx
  | n + 3, hu => simp at hu
theorem Sat.nilRow {w0 w : World} {Rs : List Asn} {T sz : Nat} (h : Sat w0 w Rs) : Sat w0 w (SX.row (.slice none 0 0) T sz [] :: Rs) :=
 h.new _ rfl rfl rfl (Nat.le_refl _) (fun _ _ => rfl) ⟨fun _ => False, ⟨fun k => by simp [Value.ownBlock], 0, by simp, .inl ⟨rfl, rfl⟩⟩, fun _ h => h.elim⟩
end SX
end Go.Proofs.Ytpenhegoilccoaa
