/- Programs that are marked, copied from one type to the other, compared, held: the functions of laws over pieces. -/
import Derived.Test.YtmeejdeafmgdnaaGP
import Derived.Test.YtmeejdeafmgdnaaGivT
import Derived.Test.YtmeejdeafmgdnaaSXp
namespace Go.Proofs.Ytmeejdeafmgdnaa.G
open Go.RowKit Go.Proofs.Ytmeejdeafmgdnaa.SX Go.Proofs.YtmeejdeafmgdnaaW.PrintWords Go.Proofs.YtmeejdeafmgdnaaW.PrintLast Go.Proofs.YtmeejdeafmgdnaaW.PrintMore
set_option linter.unusedVariables false
set_option linter.unusedSimpArgs false
theorem sl_list {α : Type} (us : List (Value × α)) (h : ∀ x ∈ us, ∃ z : Sl, x.1 = z.v) : ∃ vs : List Sl, us.map (·.1) = vs.map Sl.v := by
  induction us with
  | nil => exact ⟨[], rfl⟩
  | cons x us ih =>
    obtain ⟨vs, h1⟩ := ih fun y hy => h y (List.mem_cons_of_mem _ hy)
    obtain ⟨z, h2⟩ := h x List.mem_cons_self
    exact ⟨z :: vs, by rw [List.map_cons, List.map_cons, h1, h2]⟩
theorem map_set_same {α β : Type} (us : List (α × β)) (i : Nat) (x y : α × β) (hx : us[i]? = some x) (h : y.1 = x.1) : (us.set i y).map (·.1) = us.map (·.1) := by
  apply List.ext_getElem?
  intro j
  rw [List.map_set, List.getElem?_set]
  split
  · rename_i hj
    subst hj
    have h3 : (us.map (·.1))[i]? = some x.1 := by rw [List.getElem?_map, hx]; rfl
    rw [h3, h]
    rw [if_pos (List.getElem?_eq_some_iff.1 h3).1]
  · rfl
/-- A piece that is written by a call, as the printer tells it. -/
theorem _root_.Go.Proofs.Ytmeejdeafmgdnaa.SX.Sat.kdTurn {w0 w : World} {Rs : List Asn} {α : Type} {d : Kd α} {e : Nat} {v : Value} {l : List α} (h : Sat w0 w (kdP w0.heap.size d e v l :: Rs)) :
    ∃ F : Nat → Prop, d.R e w w0.heap.size F v l ∧ ∀ (w' : World) (l' : List α), Below w0.heap.size w0 w' → Kept w w' F → d.R e w' w0.heap.size (fun k => F k ∨ w.heap.size ≤ k) v l' → Sat w0 w' (kdP w0.heap.size d e v l' :: Rs) := by
  obtain ⟨hb, F, h1, h2, h3⟩ := h
  obtain ⟨g1, g2⟩ := h1 0 _ rfl
  refine ⟨F 0, g2, fun w' l' hb' hk hR => ?_⟩
  refine ⟨hb', fun j b => match j with | 0 => F 0 b ∨ (w.heap.size ≤ b ∧ b < w'.heap.size) | j + 1 => F (j + 1) b, fun j S hj => ?_, fun i j b hi hj => ?_, fun j b hj => ?_⟩
  · match j with
    | 0 =>
      simp at hj
      subst hj
      refine ⟨fun k hk2 => ?_, Kd.R_mono (Kd.R_bound hR) fun k hk2 => ?_⟩
      · rcases hk2 with h | h
        · have := g1 k h; have := hk.1; omega
        · exact h.2
      · rcases hk2.1 with h | h
        · exact .inl h
        · exact .inr ⟨h, hk2.2.2.1⟩
    | j + 1 =>
      refine S.loc w w' _ (h1 (j + 1) S hj) fun b hF => hk.2 b (h3 _ b hF).2 fun h0 => ?_
      have := h2 _ _ b hF h0
      omega
  · match i, j with
    | 0, 0 => rfl
    | 0, j + 1 =>
      rcases hi with h | h
      · exact h2 _ _ b h hj
      · have := (h3 _ b hj).2; omega
    | i + 1, 0 =>
      rcases hj with h | h
      · exact h2 _ _ b hi h
      · have := (h3 _ b hi).2; omega
    | i + 1, j + 1 => exact h2 _ _ b hi hj
  · have hs : w.heap.size ≤ w'.heap.size := hk.1
    have hs0 : w0.heap.size ≤ w.heap.size := hb.size
    match j with
    | 0 =>
      rcases hj with h | h
      · have := h3 _ b h; omega
      · omega
    | j + 1 => have := h3 _ b hj; omega
theorem markStepS_sat {w0 w : World} {Rs : List Asn} {s : Sl} {l : List ST} {a : Int} (hS : Sat w0 w (kdP w0.heap.size k76 76 s.v l :: Rs)) (h0 : 0 ≤ a) (hn : l.length ≤ 4194304) (ha : a ≤ 1073741824) :
    Calls Try.prog 104 #[.slice s.A s.n s.c, .int .i64 a] w (Ret fun r w' => r = .int .i64 (a + 3 * (l.length : Int)) ∧ Sat w0 w' (kdP w0.heap.size k76 76 s.v (mkS a l.length) :: Rs)) := by
  obtain ⟨F, hR, hT⟩ := hS.kdTurn
  refine (laws_markStepS.calls (l.length + 1) F s.v l a _ _ w0 w hS.below hR (markStepS_f l a h0 hn ha _ (by omega))).mono ?_
  rintro e w' ⟨rfl, h1, h2, h3⟩
  exact ⟨rfl, hT w' _ h2 h3 h1⟩
theorem code65 : Try.f65.body = some (Code.seq (Code.region 0 (regOf Try.f65 0) false) (Code.seq (Code.seq (Code.region 1 (regOf Try.f65 1) false) (Code.block 0 (Code.loop (Code.seq (Code.seq (Code.region 2 (regOf Try.f65 2) false) (Code.cond (Operand.tmp 9) Code.skip (Code.exit 0))) (Code.seq (Code.block 1 (Code.region 4 (regOf Try.f65 4) false)) (Code.region 3 (regOf Try.f65 3) false)))))) (Code.seq (Code.region 5 (regOf Try.f65 5) false) Code.ret))) := by kernel_rfl
set_option maxRecDepth 20000 in
set_option maxHeartbeats 1000000 in
theorem markStepSS_sat (w0 w : World) (Rs : List Asn) (s0 : Sl) (l : List (List S76)) (x0 : Int) (hS0 : Sat w0 w (kdS w0.heap.size k76 76 74 s0 l :: Rs)) (h0 : 0 ≤ x0) (hn : l.length ≤ 4194304) (ht : tot l ≤ 4194304) (ha1 : x0 ≤ 1048576) :
    Calls Try.prog 65 #[.slice s0.A s0.n s0.c, .int .i64 x0] w (Ret fun r w' => r = .int .i64 (x0 + 3 * (tot l : Int)) ∧ Sat w0 w' (kdS w0.heap.size k76 76 74 s0 (mkSS x0 l) :: Rs)) := by
  have hlen0 : s0.n = l.length := (hS0.rdS 0 rfl).len
  obtain ⟨us, hus, hso, hS⟩ := hS0.openS
  obtain ⟨vs, hfs⟩ : ∃ vs : List Sl, us.map (·.1) = vs.map Sl.v := sl_list us hso
  rw [show us.map Prod.fst = vs.map Sl.v from hfs] at hS
  refine enter (n := 19) Try.func65 code65 (by kernel_rfl) (Nat.le_of_ble_eq_true rfl) (fun a ha => ?_)
  replace ha : Has 19 [(0, .slice s0.A s0.n s0.c), (1, .int .i64 x0)] a := ha
  refine wp_seq ?_
  refine p_begin ?_
  refine p_val (v := .int .i64 0) ha (by decide) (v_pure ha (At.here (by kernel_rfl : ((regOf Try.f65 0)[0]?).map spec = some ((Op.assign (Operand.const (Value.int IntKind.i64 0))), some 4, 3, none))) (by kernel_rfl) (fun _ => by kernel_rfl)) (fun a1 ha2 => ?_)
  refine p_end ?_
  have ha3 := ha2.keeps [0, 1, 4] [(0, .slice s0.A s0.n s0.c), (1, .int .i64 x0), (4, .int .i64 0)] rfl
  clear ha2 ha a
  refine then_n ?_
  refine wp_seq ?_
  refine wp_seq ?_
  refine p_begin ?_
  refine p_val (v := .int .i64 0) ha3 (by decide) (v_pure ha3 (At.here (by kernel_rfl : ((regOf Try.f65 1)[0]?).map spec = some ((Op.assign (Operand.const (Value.int IntKind.i64 0))), some 5, 3, none))) (by kernel_rfl) (fun _ => by kernel_rfl)) (fun a4 ha5 => ?_)
  refine p_end ?_
  have ha6 := ha5.keeps [0, 1, 4, 5] [(0, .slice s0.A s0.n s0.c), (1, .int .i64 x0), (4, .int .i64 0), (5, .int .i64 0)] rfl
  clear ha5 ha3 a1
  refine then_n ?_
  refine wp_block ?_
  have e0 : x0 = x0 + 3 * (tot (l.take 0) : Int) := by simp [tot]
  have ha7 : Has 19 [(0, .slice s0.A s0.n s0.c), (1, .int .i64 (x0 + 3 * (tot (l.take 0) : Int))), (5, .int .i64 ((0 : Nat) : Int))] a4 := by have hh := ha6.keeps [0, 1, 5] _ rfl; rw [← e0]; exact hh
  refine wp_loop_ghost (fun n_ a_ w_ => ∃ (i : Nat) (us : List (Value × List S76)), n_ = l.length - i ∧ (i ≤ l.length) ∧ (us.map (·.2) = mkSS x0 (l.take i) ++ l.drop i) ∧ (us.map (·.1) = vs.map Sl.v) ∧ Has 19 [(0, .slice s0.A s0.n s0.c), (1, .int .i64 (x0 + 3 * (tot (l.take i) : Int))), (5, .int .i64 (i : Int))] a_ ∧ Sat w0 w_ ((SX.row (.slice s0.A s0.n s0.c) 74 1 (vs.map Sl.v)) :: (starL (us.map fun (x : Value × List S76) => kdP w0.heap.size k76 76 x.1 x.2)) :: Rs)) _ ⟨0, us, rfl, Nat.zero_le _, by simpa [mkSS] using hus, hfs, ha7.keeps [0, 1, 5] _ rfl, hS⟩ ?_
  -- the loop's round
  rintro n_ a8 w9 ⟨i, us, rfl, hi, hus, hfs, ha10, hS11⟩
  refine wp_seq ?_
  refine wp_seq ?_
  refine p_begin ?_
  refine p_val (v := .int .i64 (i : Int)) ha10 (by decide) (v_pure ha10 (At.here (by kernel_rfl : ((regOf Try.f65 2)[0]?).map spec = some ((Op.move (Operand.tmp 5)), some 6, 3, none))) (by kernel_rfl) (fun _ => by kernel_rfl)) (fun a12 ha13 => ?_)
  refine p_val (v := .slice s0.A s0.n s0.c) ha13 (by decide) (v_pure ha13 (At.here (by kernel_rfl : ((regOf Try.f65 2)[1]?).map spec = some ((Op.move (Operand.tmp 0)), some 7, 29, none))) (by kernel_rfl) (fun _ => by kernel_rfl)) (fun a14 ha15 => ?_)
  refine p_val (v := .int .i64 (s0.n : Int)) ha15 (by decide) (v_pure ha15 (At.here (by kernel_rfl : ((regOf Try.f65 2)[2]?).map spec = some ((Op.call { callee := (Callee.builtin Builtin.len), args := #[(Operand.tmp 7)], argTypes := #[29] }), some 8, 3, none))) (by kernel_rfl) (fun _ => by kernel_rfl)) (fun a16 ha17 => ?_)
  refine p_val (v := .bool (decide ((i : Int) < (s0.n : Int)))) ha17 (by decide) (v_pure ha17 (At.here (by kernel_rfl : ((regOf Try.f65 2)[3]?).map spec = some ((Op.binOp BinOp.lss 3 (Operand.tmp 6) (Operand.tmp 8) 3), some 9, 4, none))) (by kernel_rfl) (fun _ => by kernel_rfl)) (fun a18 ha19 => ?_)
  refine p_end ?_
  have ha20 := ha19.keeps [0, 1, 5, 6, 7, 8, 9] [(0, .slice s0.A s0.n s0.c), (1, .int .i64 (x0 + 3 * (tot (l.take i) : Int))), (5, .int .i64 (i : Int)), (6, .int .i64 (i : Int)), (7, .slice s0.A s0.n s0.c), (8, .int .i64 (s0.n : Int)), (9, .bool (decide ((i : Int) < (s0.n : Int))))] rfl
  clear ha19 ha17 a16 ha15 a14 ha13 a12 ha10 a8
  refine then_n ?_
  by_cases c21 : (i : Int) < (s0.n : Int)
  ·
    have ha22 : Has 19 [(0, .slice s0.A s0.n s0.c), (1, .int .i64 (x0 + 3 * (tot (l.take i) : Int))), (5, .int .i64 (i : Int)), (6, .int .i64 (i : Int)), (7, .slice s0.A s0.n s0.c), (8, .int .i64 (s0.n : Int)), (9, .bool true)] a18 := by have hh : Has 19 [(0, .slice s0.A s0.n s0.c), (1, .int .i64 (x0 + 3 * (tot (l.take i) : Int))), (5, .int .i64 (i : Int)), (6, .int .i64 (i : Int)), (7, .slice s0.A s0.n s0.c), (8, .int .i64 (s0.n : Int)), (9, .bool (decide ((i : Int) < (s0.n : Int))))] a18 := ha20.keeps [0, 1, 5, 6, 7, 8, 9] _ rfl; simp only [decide_eq_true c21, Bool.not_true, Bool.not_false] at hh; exact hh
    have hlt : i < l.length := by have := c21; omega
    obtain ⟨b, hb⟩ : ∃ b, l[i]? = some b := ⟨_, List.getElem?_eq_getElem hlt⟩
    have htake : l.take (i + 1) = l.take i ++ [b] := by rw [List.take_add_one, hb]; rfl
    have hdrop : l.drop i = b :: l.drop (i + 1) := by rw [List.drop_eq_getElem_cons hlt, (List.getElem?_eq_some_iff.1 hb).2]
    have htl : tot (l.take i) + b.length ≤ tot l := by have h1 : tot l = tot (l.take i) + tot (l.drop i) := (by rw [← tot_append, List.take_append_drop]); rw [h1, hdrop]; simp only [tot]; omega
    have hb1 : b.length ≤ 4194304 := by omega
    have hmi : (mkSS x0 (l.take i)).length = i := by rw [mkSS_length, List.length_take]; omega
    have hlv : vs.length = l.length := by have h1 := congrArg List.length hus; have h2 := congrArg List.length hfs; simp [mkSS_length] at h1 h2; omega
    obtain ⟨x, hx, hxb⟩ : ∃ x, us[i]? = some x ∧ x.2 = b := by
      have h3 : (us.map (·.2))[i]? = some b := by rw [hus, List.getElem?_append_right (by omega), hmi, Nat.sub_self, hdrop]; rfl
      rw [List.getElem?_map] at h3
      exact Option.map_eq_some_iff.1 h3
    obtain ⟨z, hz, hxz⟩ : ∃ z : Sl, (vs.map Sl.v)[i]? = some z.v ∧ x.1 = z.v := by
      have h3 : (us.map (·.1))[i]? = some x.1 := by rw [List.getElem?_map, hx]; rfl
      rw [hfs] at h3
      obtain ⟨z, h4, h5⟩ := List.mem_map.1 (List.mem_of_getElem? h3)
      exact ⟨z, by rw [h3, h5], h5.symm⟩
    obtain rfl : x = (z.v, b) := Prod.ext hxz hxb
    have hus2 : (us.set i (z.v, mkS (x0 + 3 * (tot (l.take i) : Int)) b.length)).map (·.2) = mkSS x0 (l.take (i + 1)) ++ l.drop (i + 1) := by
      rw [List.map_set, hus, htake, mkSS_snoc, hdrop, List.append_assoc]
      have := set_mid (mkSS x0 (l.take i)) b (mkS (x0 + 3 * (tot (l.take i) : Int)) b.length) (l.drop (i + 1))
      rw [hmi] at this
      exact this
    have hfs2 : (us.set i (z.v, mkS (x0 + 3 * (tot (l.take i) : Int)) b.length)).map (·.1) = vs.map Sl.v := (map_set_same us i _ (z.v, mkS (x0 + 3 * (tot (l.take i) : Int)) b.length) hx rfl).trans hfs
    refine c_true ha22 rfl rfl ?_
    refine wp_skip ?_
    refine then_n ?_
    refine wp_seq ?_
    refine wp_block ?_
    refine p_begin ?_
    refine p_val (v := .slice s0.A s0.n s0.c) ha22 (by decide) (v_pure ha22 (At.here (by kernel_rfl : ((regOf Try.f65 4)[0]?).map spec = some ((Op.move (Operand.tmp 0)), some 12, 29, none))) (by kernel_rfl) (fun _ => by kernel_rfl)) (fun a23 ha24 => ?_)
    refine p_val (v := .int .i64 (i : Int)) ha24 (by decide) (v_pure ha24 (At.here (by kernel_rfl : ((regOf Try.f65 4)[1]?).map spec = some ((Op.move (Operand.tmp 5)), some 13, 3, none))) (by kernel_rfl) (fun _ => by kernel_rfl)) (fun a25 ha26 => ?_)
    refine p_val (v := .pointer (some ⟨bk s0, of_ s0 + i * 1, none⟩)) ha26 (by decide) (v_indexQ (s := s0) (el := 74) (sz := 1) (j := i) ha26 (At.here (by kernel_rfl : ((regOf Try.f65 4)[2]?).map spec = some ((Op.indexAddr 29 (Operand.tmp 12) (Operand.tmp 13)), some 14, 0, none))) rfl rfl (by kernel_rfl) (by kernel_rfl) (((hS11).rdV (T := 74) (s := s0) 0 rfl).cells i (by rw [List.length_map, hlv]; exact hlt)).1 rfl (by rw [hlen0]; exact hlt)) (fun a27 ha28 => ?_)
    refine p_val (v := .slice z.A z.n z.c) ha28 (by decide) (v_loadC (v := .slice z.A z.n z.c) (p := ⟨bk s0, of_ s0 + i * 1, none⟩) ha28 (At.here (by kernel_rfl : ((regOf Try.f65 4)[3]?).map spec = some ((Op.load 74 (Operand.tmp 14)), some 15, 74, none))) rfl (by kernel_rfl) (fun w' hw => by rw [hw, Nat.mul_one]; exact (((hS11).rdV (T := 74) (s := s0) 0 rfl).cells i (by rw [List.length_map, hlv]; exact hlt)).2.trans hz)) (fun a29 ha30 => ?_)
    refine p_val (v := .int .i64 (x0 + 3 * (tot (l.take i) : Int))) ha30 (by decide) (v_pure ha30 (At.here (by kernel_rfl : ((regOf Try.f65 4)[4]?).map spec = some ((Op.move (Operand.tmp 1)), some 16, 3, none))) (by kernel_rfl) (fun _ => by kernel_rfl)) (fun a31 ha32 => ?_)
    have hS37 : Sat w0 w9 ((kdP w0.heap.size k76 76 z.v b) :: (starL ((us.eraseIdx i).map fun (x : Value × List S76) => kdP w0.heap.size k76 76 x.1 x.2)) :: (SX.row (.slice s0.A s0.n s0.c) 74 1 (vs.map Sl.v)) :: Rs) := Sat.takeAt (g := fun (x : Value × List S76) => kdP w0.heap.size k76 76 x.1 x.2) hx (hS11.pickR (l := [SX.row (.slice s0.A s0.n s0.c) 74 1 (vs.map Sl.v), starL (us.map fun (x : Value × List S76) => kdP w0.heap.size k76 76 x.1 x.2)]) [1, 0] (by decide) [starL (us.map fun (x : Value × List S76) => kdP w0.heap.size k76 76 x.1 x.2), SX.row (.slice s0.A s0.n s0.c) 74 1 (vs.map Sl.v)] rfl)
    refine p_op (o_ret (Post := fun r w' => r = .int .i64 (x0 + 3 * (tot (l.take i) : Int) + 3 * (b.length : Int)) ∧ Sat w0 w' ((kdP w0.heap.size k76 76 z.v (mkS (x0 + 3 * (tot (l.take i) : Int)) b.length)) :: (starL ((us.eraseIdx i).map fun (x : Value × List S76) => kdP w0.heap.size k76 76 x.1 x.2)) :: (SX.row (.slice s0.A s0.n s0.c) 74 1 (vs.map Sl.v)) :: Rs)) ha32 (by decide) (At.here (by kernel_rfl : ((regOf Try.f65 4)[5]?).map spec = some ((Op.call { callee := (Callee.value (Operand.func 104)), args := #[(Operand.tmp 15), (Operand.tmp 16)], argTypes := #[74, 3] }), some 17, 3, none))) rfl Try.func104 (by kernel_rfl) (markStepS_sat hS37 (by omega) hb1 (by omega)) (fun v38 w35 a33 hp39 ha34 => ?_))
    obtain ⟨rfl, hS36⟩ := hp39
    have ha40 : Has 19 [(0, .slice s0.A s0.n s0.c), (1, .int .i64 (x0 + 3 * (tot (l.take i) : Int))), (5, .int .i64 (i : Int)), (6, .int .i64 (i : Int)), (7, .slice s0.A s0.n s0.c), (8, .int .i64 (s0.n : Int)), (9, .bool true), (12, .slice s0.A s0.n s0.c), (13, .int .i64 (i : Int)), (14, .pointer (some ⟨bk s0, of_ s0 + i * 1, none⟩)), (15, .slice z.A z.n z.c), (16, .int .i64 (x0 + 3 * (tot (l.take i) : Int))), (17, .int .i64 (x0 + 3 * (tot (l.take i) : Int) + 3 * (b.length : Int)))] a33 := ha34.keeps [0, 1, 5, 6, 7, 8, 9, 12, 13, 14, 15, 16, 17] _ rfl
    refine p_val (v := .int .i64 (x0 + 3 * (tot (l.take i) : Int) + 3 * (b.length : Int))) ha40 (by decide) (v_pure ha40 (At.here (by kernel_rfl : ((regOf Try.f65 4)[6]?).map spec = some ((Op.assign (Operand.tmp 17)), some 1, 3, none))) (by kernel_rfl) (fun _ => by kernel_rfl)) (fun a41 ha42 => ?_)
    refine p_end ?_
    have ha43 := ha42.keeps [0, 5, 6, 7, 8, 9, 12, 13, 14, 15, 16, 17, 1] [(0, .slice s0.A s0.n s0.c), (5, .int .i64 (i : Int)), (6, .int .i64 (i : Int)), (7, .slice s0.A s0.n s0.c), (8, .int .i64 (s0.n : Int)), (9, .bool true), (12, .slice s0.A s0.n s0.c), (13, .int .i64 (i : Int)), (14, .pointer (some ⟨bk s0, of_ s0 + i * 1, none⟩)), (15, .slice z.A z.n z.c), (16, .int .i64 (x0 + 3 * (tot (l.take i) : Int))), (17, .int .i64 (x0 + 3 * (tot (l.take i) : Int) + 3 * (b.length : Int))), (1, .int .i64 (x0 + 3 * (tot (l.take i) : Int) + 3 * (b.length : Int)))] rfl
    clear ha42 ha40 a33 ha34 hS37 ha32 a31 hS11 ha30 a29 ha28 a27 ha26 a25 ha24 a23 ha22 a18 ha20
    refine in_n ?_
    refine then_n ?_
    refine p_begin ?_
    refine p_val (v := .int .i64 (i : Int)) ha43 (by decide) (v_pure ha43 (At.here (by kernel_rfl : ((regOf Try.f65 3)[0]?).map spec = some ((Op.move (Operand.tmp 5)), some 10, 3, none))) (by kernel_rfl) (fun _ => by kernel_rfl)) (fun a44 ha45 => ?_)
    refine p_val (v := .int .i64 ((i : Int) + 1)) ha45 (by decide) ((v_pure (v := .int .i64 (IntKind.i64.wrap ((i : Int) + 1))) ha45 (At.here (by kernel_rfl : ((regOf Try.f65 3)[1]?).map spec = some ((Op.binOp BinOp.add 3 (Operand.tmp 10) (Operand.const (Value.int IntKind.i64 1)) 3), some 11, 3, none))) (by kernel_rfl) (fun _ => by kernel_rfl)).as (by rw [wrap_i64 (by omega) (by omega)])) (fun a46 ha47 => ?_)
    refine p_val (v := .int .i64 ((i : Int) + 1)) ha47 (by decide) (v_pure ha47 (At.here (by kernel_rfl : ((regOf Try.f65 3)[2]?).map spec = some ((Op.assign (Operand.tmp 11)), some 5, 3, none))) (by kernel_rfl) (fun _ => by kernel_rfl)) (fun a48 ha49 => ?_)
    refine p_end ?_
    have ha50 := ha49.keeps [0, 6, 7, 8, 9, 12, 13, 14, 15, 16, 17, 1, 10, 11, 5] [(0, .slice s0.A s0.n s0.c), (6, .int .i64 (i : Int)), (7, .slice s0.A s0.n s0.c), (8, .int .i64 (s0.n : Int)), (9, .bool true), (12, .slice s0.A s0.n s0.c), (13, .int .i64 (i : Int)), (14, .pointer (some ⟨bk s0, of_ s0 + i * 1, none⟩)), (15, .slice z.A z.n z.c), (16, .int .i64 (x0 + 3 * (tot (l.take i) : Int))), (17, .int .i64 (x0 + 3 * (tot (l.take i) : Int) + 3 * (b.length : Int))), (1, .int .i64 (x0 + 3 * (tot (l.take i) : Int) + 3 * (b.length : Int))), (10, .int .i64 (i : Int)), (11, .int .i64 ((i : Int) + 1)), (5, .int .i64 ((i : Int) + 1))] rfl
    clear ha49 ha47 a46 ha45 a44 ha43 a41
    refine then_n ?_
    have hS51 : Sat w0 w35 ((kdP w0.heap.size k76 76 z.v (mkS (x0 + 3 * (tot (l.take i) : Int)) b.length)) :: (starL ((us.eraseIdx i).map fun (x : Value × List S76) => kdP w0.heap.size k76 76 x.1 x.2)) :: (SX.row (.slice s0.A s0.n s0.c) 74 1 (vs.map Sl.v)) :: Rs) := hS36.pickR (l := [kdP w0.heap.size k76 76 z.v (mkS (x0 + 3 * (tot (l.take i) : Int)) b.length), starL ((us.eraseIdx i).map fun (x : Value × List S76) => kdP w0.heap.size k76 76 x.1 x.2), SX.row (.slice s0.A s0.n s0.c) 74 1 (vs.map Sl.v)]) [0, 1, 2] (by decide) [kdP w0.heap.size k76 76 z.v (mkS (x0 + 3 * (tot (l.take i) : Int)) b.length), starL ((us.eraseIdx i).map fun (x : Value × List S76) => kdP w0.heap.size k76 76 x.1 x.2), SX.row (.slice s0.A s0.n s0.c) 74 1 (vs.map Sl.v)] rfl
    have hS52 : Sat w0 w35 ((starL ((us.set i (z.v, mkS (x0 + 3 * (tot (l.take i) : Int)) b.length)).map fun (x : Value × List S76) => kdP w0.heap.size k76 76 x.1 x.2)) :: (SX.row (.slice s0.A s0.n s0.c) 74 1 (vs.map Sl.v)) :: Rs) := Sat.putAt (g := fun (x : Value × List S76) => kdP w0.heap.size k76 76 x.1 x.2) (y := (z.v, mkS (x0 + 3 * (tot (l.take i) : Int)) b.length)) hx hS51
    have hS53 : Sat w0 w35 ((SX.row (.slice s0.A s0.n s0.c) 74 1 (vs.map Sl.v)) :: (starL ((us.set i (z.v, mkS (x0 + 3 * (tot (l.take i) : Int)) b.length)).map fun (x : Value × List S76) => kdP w0.heap.size k76 76 x.1 x.2)) :: Rs) := hS52.pickR (l := [starL ((us.set i (z.v, mkS (x0 + 3 * (tot (l.take i) : Int)) b.length)).map fun (x : Value × List S76) => kdP w0.heap.size k76 76 x.1 x.2), SX.row (.slice s0.A s0.n s0.c) 74 1 (vs.map Sl.v)]) [1, 0] (by decide) [SX.row (.slice s0.A s0.n s0.c) 74 1 (vs.map Sl.v), starL ((us.set i (z.v, mkS (x0 + 3 * (tot (l.take i) : Int)) b.length)).map fun (x : Value × List S76) => kdP w0.heap.size k76 76 x.1 x.2)] rfl
    have e1 : x0 + 3 * (tot (l.take i) : Int) + 3 * (b.length : Int) = x0 + 3 * (tot (l.take (i + 1)) : Int) := by rw [htake, tot_append]; simp only [tot]; omega
    have ha54 : Has 19 [(0, .slice s0.A s0.n s0.c), (1, .int .i64 (x0 + 3 * (tot (l.take (i + 1)) : Int))), (5, .int .i64 ((i + 1 : Nat) : Int))] a48 := by have hh := ha50.keeps [0, 1, 5] _ rfl; rw [← e1]; exact hh
    exact ⟨_, by omega, i + 1, (us.set i (z.v, mkS (x0 + 3 * (tot (l.take i) : Int)) b.length)), rfl, by omega, hus2, hfs2, ha54.keeps [0, 1, 5] _ rfl, hS53⟩
  ·
    have ha55 : Has 19 [(0, .slice s0.A s0.n s0.c), (1, .int .i64 (x0 + 3 * (tot (l.take i) : Int))), (5, .int .i64 (i : Int)), (6, .int .i64 (i : Int)), (7, .slice s0.A s0.n s0.c), (8, .int .i64 (s0.n : Int)), (9, .bool false)] a18 := by have hh : Has 19 [(0, .slice s0.A s0.n s0.c), (1, .int .i64 (x0 + 3 * (tot (l.take i) : Int))), (5, .int .i64 (i : Int)), (6, .int .i64 (i : Int)), (7, .slice s0.A s0.n s0.c), (8, .int .i64 (s0.n : Int)), (9, .bool (decide ((i : Int) < (s0.n : Int))))] a18 := ha20.keeps [0, 1, 5, 6, 7, 8, 9] _ rfl; simp only [decide_eq_false c21, Bool.not_true, Bool.not_false] at hh; exact hh
    have hend : i = l.length := by have := c21; omega
    refine c_false ha55 rfl rfl ?_
    refine wp_exit ?_
    refine then_x ?_
    refine then_x ?_
    refine in_x ?_
    refine then_n ?_
    refine wp_seq ?_
    refine p_begin ?_
    refine p_val (v := .int .i64 (x0 + 3 * (tot (l.take i) : Int))) ha55 (by decide) (v_pure ha55 (At.here (by kernel_rfl : ((regOf Try.f65 5)[0]?).map spec = some ((Op.move (Operand.tmp 1)), some 18, 3, none))) (by kernel_rfl) (fun _ => by kernel_rfl)) (fun a56 ha57 => ?_)
    refine p_val (v := .int .i64 (x0 + 3 * (tot (l.take i) : Int))) ha57 (by decide) (v_pure ha57 (At.here (by kernel_rfl : ((regOf Try.f65 5)[1]?).map spec = some ((Op.assign (Operand.tmp 18)), some 4, 3, none))) (by kernel_rfl) (fun _ => by kernel_rfl)) (fun a58 ha59 => ?_)
    refine p_end ?_
    have ha60 := ha59.keeps [4] [(4, .int .i64 (x0 + 3 * (tot (l.take i) : Int)))] rfl
    clear ha59 ha57 a56 ha55 a18 ha20
    refine then_n ?_
    refine wp_ret ?_
    refine end_tmp (t := 4) ha60 (by kernel_rfl) rfl ?_
    rw [hend, List.take_length, List.drop_length, List.append_nil] at hus
    refine ⟨by rw [hend, List.take_length], Sat.shutS us hus (fun x hx => ?_) (by rw [hfs]; exact hS11)⟩
    have := List.mem_map_of_mem (f := Prod.fst) hx
    rw [hfs] at this
    obtain ⟨z, _, hz⟩ := List.mem_map.1 this
    exact ⟨z, hz.symm⟩
end Go.Proofs.Ytmeejdeafmgdnaa.G
