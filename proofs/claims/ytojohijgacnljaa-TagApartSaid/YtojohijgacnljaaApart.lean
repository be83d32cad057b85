/- TagApart: references, primitives and numbers with one index are unlike; unlike indexes make unlike values. Proved for every input: no condition. -/
import Derived.Test.YtojohijgacnljaaPTagApartx1
import Derived.Test.YtojohijgacnljaaTagPlain
import Derived.KernelRfl
namespace Go.Proofs.Ytojohijgacnljaa.Apart
open Go.RowKit Go.Proofs.YtojohijgacnljaaW.PrintWords Go.Proofs.YtojohijgacnljaaW.PrintLast Go.Proofs.YtojohijgacnljaaW.PrintMore Go.Proofs.Ytojohijgacnljaa.PTagApart Go.Proofs.Ytojohijgacnljaa.Plain
set_option linter.unusedVariables false
set_option linter.unusedSimpArgs false

/-! ### tag_indexed: function 43 -/
def tag_indexed.f (a0 : Int) (a1 : Int) : Option (Int × Int) := if a0 < 0 then (some (0, 1)) else (if a0 > 2147483647 then (some (0, 1)) else (some (Go.bits .or .u64 (IntKind.u64.wrap ((IntKind.u64.wrap (a0)) * 4)) a1, 0)))
set_option maxHeartbeats 8000000 in
set_option maxRecDepth 100000 in
theorem tag_indexed.calls (a0 : Int) (a1 : Int) (r1 : Int) (r2 : Int) (w : World) (h : tag_indexed.f a0 a1 = some (r1, r2)) :
    Calls Try.prog 43 #[.int .i64 a0, .int .u64 a1] w fun e w' => e = .returned (.tuple #[.int .u64 r1, .int .i64 r2]) ∧ Drawn0 w w' := by
  have H : (if a0 < 0 then (some (0, 1)) else (if a0 > 2147483647 then (some (0, 1)) else (some (Go.bits .or .u64 (IntKind.u64.wrap ((IntKind.u64.wrap (a0)) * 4)) a1, 0)))) = some (r1, r2) := h
  clear h
  by_cases c3 : a0 < 0
  · rw [if_pos c3] at H
    have c3b0 : decide (a0 < 0) = true := decide_eq_true c3
    clear c3
    simp only [Option.some.injEq, Prod.mk.injEq] at H
    obtain ⟨rfl, rfl⟩ := H
    go_enter Try.func43, Try.ntmps43
    go_wp2
    go_ret2
    exact ⟨by first | rfl | (simp; done) | (simp [*]; done), by repeat (first | exact Drawn0.refl _ | apply Drawn0.step)⟩
  · rw [if_neg c3] at H
    have c3b0 : decide (a0 < 0) = false := decide_eq_false c3
    clear c3
    by_cases c4 : a0 > 2147483647
    · rw [if_pos c4] at H
      have c4b0 : decide (2147483647 < a0) = true := decide_eq_true c4
      clear c4
      simp only [Option.some.injEq, Prod.mk.injEq] at H
      obtain ⟨rfl, rfl⟩ := H
      go_enter Try.func43, Try.ntmps43
      go_wp2
      go_ret2
      exact ⟨by first | rfl | (simp; done) | (simp [*]; done), by repeat (first | exact Drawn0.refl _ | apply Drawn0.step)⟩
    · rw [if_neg c4] at H
      have c4b0 : decide (2147483647 < a0) = false := decide_eq_false c4
      clear c4
      simp only [Option.some.injEq, Prod.mk.injEq] at H
      obtain ⟨rfl, rfl⟩ := H
      go_enter Try.func43, Try.ntmps43
      go_wp2
      go_ret2
      exact ⟨by first | rfl | (simp; done) | (simp [*]; done), by repeat (first | exact Drawn0.refl _ | apply Drawn0.step)⟩

/-! ### tag_Ref: function 34 -/
def tag_Ref.f (a0 : Int) : Option (Int × Int) := (tag_indexed.f a0 2).bind fun bt135 => (some (bt135.1, bt135.2))
set_option maxHeartbeats 8000000 in
set_option maxRecDepth 100000 in
theorem tag_Ref.calls (a0 : Int) (r1 : Int) (r2 : Int) (w : World) (h : tag_Ref.f a0 = some (r1, r2)) :
    Calls Try.prog 34 #[.int .i64 a0] w fun e w' => e = .returned (.tuple #[.int .u64 r1, .int .i64 r2]) ∧ Drawn0 w w' := by
  have H : ((tag_indexed.f a0 2).bind fun bt135 => (some (bt135.1, bt135.2))) = some (r1, r2) := h
  clear h
  replace H := Option.bind_eq_some_iff.mp H
  obtain ⟨⟨t135, t136⟩, A20, H⟩ := H
  replace H : (some (t135, t136)) = some (r1, r2) := H
  have A2 := Aside0.mk A20
  clear A20
  simp only [Option.some.injEq, Prod.mk.injEq] at H
  obtain ⟨rfl, rfl⟩ := H
  go_enter Try.func34, Try.ntmps34
  go_wp2_with (first | ((with_reducible refine gate_callee (f := 43) rfl ?_); refine goesL_ (some 5) rfl rfl Try.func43 (by kernel_rfl) rfl #[.int .i64 a0, .int .u64 2] rfl (by (try simp only [List.map_toArray, List.map_cons, List.map_nil]); first | done | rfl | (simp only [List.length_drop, List.length_take]; rfl)) ?_; (with_reducible refine (tag_indexed.calls a0 2 t135 t136 _ A2.out).mono ?_); rintro e w' ⟨rfl, ⟨nd, rfl⟩⟩; refine ⟨_, rfl, ?_⟩))
  go_ret2
  exact ⟨by first | rfl | (simp; done) | (simp [*]; done), by repeat (first | exact Drawn0.refl _ | apply Drawn0.step)⟩

/-! ### tag_Prim: function 35 -/
def tag_Prim.f (a0 : Int) : Option (Int × Int) := (tag_indexed.f a0 3).bind fun bt137 => (some (bt137.1, bt137.2))
set_option maxHeartbeats 8000000 in
set_option maxRecDepth 100000 in
theorem tag_Prim.calls (a0 : Int) (r1 : Int) (r2 : Int) (w : World) (h : tag_Prim.f a0 = some (r1, r2)) :
    Calls Try.prog 35 #[.int .i64 a0] w fun e w' => e = .returned (.tuple #[.int .u64 r1, .int .i64 r2]) ∧ Drawn0 w w' := by
  have H : ((tag_indexed.f a0 3).bind fun bt137 => (some (bt137.1, bt137.2))) = some (r1, r2) := h
  clear h
  replace H := Option.bind_eq_some_iff.mp H
  obtain ⟨⟨t137, t138⟩, A20, H⟩ := H
  replace H : (some (t137, t138)) = some (r1, r2) := H
  have A2 := Aside0.mk A20
  clear A20
  simp only [Option.some.injEq, Prod.mk.injEq] at H
  obtain ⟨rfl, rfl⟩ := H
  go_enter Try.func35, Try.ntmps35
  go_wp2_with (first | ((with_reducible refine gate_callee (f := 43) rfl ?_); refine goesL_ (some 5) rfl rfl Try.func43 (by kernel_rfl) rfl #[.int .i64 a0, .int .u64 3] rfl (by (try simp only [List.map_toArray, List.map_cons, List.map_nil]); first | done | rfl | (simp only [List.length_drop, List.length_take]; rfl)) ?_; (with_reducible refine (tag_indexed.calls a0 3 t137 t138 _ A2.out).mono ?_); rintro e w' ⟨rfl, ⟨nd, rfl⟩⟩; refine ⟨_, rfl, ?_⟩))
  go_ret2
  exact ⟨by first | rfl | (simp; done) | (simp [*]; done), by repeat (first | exact Drawn0.refl _ | apply Drawn0.step)⟩


theorem num_t {v : Int} (h0 : 0 ≤ v) (h1 : v < 18446744073709551616) : tag_Num.f v = some (if v % 4 = 0 then (nv v, true) else (0, false)) := by
  unfold tag_Num.f
  rw [and3 h0 h1]
  by_cases h : v % 4 = 0
  · rw [if_pos h, if_pos h, num_word h0 h1 h]
  · rw [if_neg h, if_neg h]

theorem int_t (n : Int) : tag_Int.f n = some (iw n) := by
  unfold tag_Int.f
  rw [int_word]

theorem two_j2 (k : Nat) (x y : Int) : tag_two.j2 (k + 1) x y = some (iw (x + y), 0) := by
  simp only [tag_two.j2, int_t, Option.bind_some, iw_wrap]

theorem two_j1 (k : Nat) (op x y : Int) (hop : 0 ≤ op ∧ op ≤ 4) (hy : 3 ≤ op → y ≠ 0) : tag_two.j1 (k + 2) op x y = some (iw (opv op x y), 0) := by
  obtain ⟨ha, hb⟩ := hop
  obtain h | h | h | h | h : op = 0 ∨ op = 1 ∨ op = 2 ∨ op = 3 ∨ op = 4 := by omega
  all_goals subst h
  · simp only [tag_two.j1, int_t, Option.bind_some, iw_wrap, two_j2, opv]; simp
  · simp only [tag_two.j1, two_j2, opv]
    simp only [if_true]
    rw [iw_congr (a := x + wrap64 (-y)) (b := x - y) (by unfold wrap64; omega)]
  · simp only [tag_two.j1, int_t, Option.bind_some, iw_wrap, opv]; simp
  · simp only [tag_two.j1, int_t, Option.bind_some, iw_wrap, opv]; rw [if_neg (hy (by omega))]; simp
  · simp only [tag_two.j1, int_t, Option.bind_some, opv]; simp [hy (by omega)]

theorem two_t (k : Nat) (op a b : Int) (hop : 0 ≤ op ∧ op ≤ 4) (a0 : 0 ≤ a) (a1 : a < 18446744073709551616) (b0 : 0 ≤ b) (b1 : b < 18446744073709551616) :
    tag_two.f (k + 3) op a b = some (two op a b) := by
  unfold tag_two.f
  rw [num_t a0 a1, num_t b0 b1]
  by_cases ha : a % 4 = 0
  · by_cases hb : b % 4 = 0
    · simp only [if_pos ha, if_pos hb, Option.bind_some, if_true, Bool.not_true, tag_two.j0, Bool.false_eq_true, if_false]
      by_cases hz : nv b = 0
      · by_cases h3 : 3 ≤ op
        · rw [if_pos hz, if_pos h3, two_zero ha hb hz h3]
        · rw [if_pos hz, if_neg h3, two_some ha hb (fun h => h3 h.2)]
          exact two_j1 k op _ _ hop (fun h => absurd h h3)
      · rw [if_neg hz, two_some ha hb (fun h => hz h.1)]
        exact two_j1 k op _ _ hop (fun _ => hz)
    · rw [two_kind (fun h => hb h.2)]
      simp [ha, hb, tag_two.j0]
  · rw [two_kind (fun h => ha h.1)]
    simp [ha, tag_two.j0]

theorem live_t (k : Nat) : jacquardlaw01_live.f (k + 3) = some true := by
  induction k with
  | zero => kernel_rfl
  | succ k ih => exact jacquardlaw01_live.mono (k + 3) _ ih

theorem kind_t (k : Nat) {v : Int} (h0 : 0 ≤ v) (h1 : v < 18446744073709551616) : tag_Kind.f (k + 1) v = some (kd v) := by
  unfold tag_Kind.f kd
  rw [and3 h0 h1, wrap_of (n := v % 4) (by omega) (by omega)]
  by_cases h : v % 4 = 0
  · rw [if_pos h, if_pos h, h]
  · rw [if_neg h, if_neg h]
    by_cases h' : v % 4 = 1
    · rw [if_pos h', if_pos h', h']
      by_cases h9 : v ≤ 9 <;> simp [tag_Kind.j0, h9]
    · rw [if_neg h', if_neg h']
      simp only [tag_Kind.j0]
      rw [if_neg (by simp), if_pos (by omega)]
      by_cases hm : v / 4 ≤ 2147483647
      · rw [if_pos hm, if_pos hm]
      · rw [if_neg hm, if_neg hm]

theorem ix_t (i t : Int) (ht : 0 ≤ t ∧ t < 4) : tag_indexed.f i t = some (ix i t) := by
  unfold tag_indexed.f ix
  by_cases h : i < 0
  · rw [if_pos h, if_neg (by omega)]
  · by_cases h' : i > 2147483647
    · rw [if_neg h, if_pos h', if_neg (by omega)]
    · rw [if_neg h, if_neg h', if_pos (by omega), or_tag (by omega) (by omega) ht]
theorem ref_t (i : Int) : tag_Ref.f i = some (ix i 2) := by
  unfold tag_Ref.f; rw [ix_t i 2 (by omega)]; rfl
theorem prim_t (i : Int) : tag_Prim.f i = some (ix i 3) := by
  unfold tag_Prim.f; rw [ix_t i 3 (by omega)]; rfl

theorem num_c (a : Int) (w : World) : Calls Try.prog 17 #[.int .i64 a] w fun e w' => e = .returned (.int .i64 a) ∧ Drawn0 w w' := jacquardlaw01_num.calls a a w rfl
theorem int_c (a : Int) (w : World) : Calls Try.prog 19 #[.int .i64 a] w fun e w' => e = .returned (.int .u64 (iw a)) ∧ Drawn0 w w' := tag_Int.calls a _ w (int_t a)
theorem live_c (w : World) : Calls Try.prog 18 #[] w fun e w' => e = .returned (.bool true) ∧ Drawn0 w w' := jacquardlaw01_live.calls (0 + 3) _ w (live_t 0)
theorem truth_c (a : Int) (w : World) (h1 : a ≠ 1) (h5 : a ≠ 5) : Calls Try.prog 30 #[.int .u64 a] w fun e w' => e = .returned (.bool true) ∧ Drawn0 w w' :=
  tag_Truth.calls a _ w (by unfold tag_Truth.f; rw [if_neg h1, bne_iff_ne.2 h5])
theorem ref_in (i : Int) (w : World) (h0 : 0 ≤ i) (h1 : i ≤ 2147483647) : Calls Try.prog 34 #[.int .i64 i] w fun e w' => e = .returned (.tuple #[.int .u64 (i * 4 + 2), .int .i64 0]) ∧ Drawn0 w w' :=
  tag_Ref.calls i _ _ w (by rw [ref_t]; unfold ix; rw [if_pos ⟨h0, h1⟩])
theorem prim_in (i : Int) (w : World) (h0 : 0 ≤ i) (h1 : i ≤ 2147483647) : Calls Try.prog 35 #[.int .i64 i] w fun e w' => e = .returned (.tuple #[.int .u64 (i * 4 + 3), .int .i64 0]) ∧ Drawn0 w w' :=
  tag_Prim.calls i _ _ w (by rw [prim_t]; unfold ix; rw [if_pos ⟨h0, h1⟩])
theorem ref_out (i : Int) (w : World) (h : ¬(0 ≤ i ∧ i ≤ 2147483647)) : Calls Try.prog 34 #[.int .i64 i] w fun e w' => e = .returned (.tuple #[.int .u64 0, .int .i64 1]) ∧ Drawn0 w w' :=
  tag_Ref.calls i _ _ w (by rw [ref_t]; unfold ix; rw [if_neg h])
theorem prim_out (i : Int) (w : World) (h : ¬(0 ≤ i ∧ i ≤ 2147483647)) : Calls Try.prog 35 #[.int .i64 i] w fun e w' => e = .returned (.tuple #[.int .u64 0, .int .i64 1]) ∧ Drawn0 w w' :=
  tag_Prim.calls i _ _ w (by rw [prim_t]; unfold ix; rw [if_neg h])
set_option maxHeartbeats 8000000 in
set_option maxRecDepth 100000 in
theorem apart_oo (i j : Int) (w : World) (hi : Aside0 (¬(0 ≤ i ∧ i ≤ 2147483647))) (hj : Aside0 (¬(0 ≤ j ∧ j ≤ 2147483647))) :
    Calls Try.prog 11 #[.int .i64 i, .int .i64 j] w fun e w' => e = .returned (.bool true) ∧ Drawn0 w w' := by
  go_enter Try.func11, Try.ntmps11
  go_wp2_with (first | ((with_reducible refine gate_callee (f := 34) rfl ?_); refine goesL_ (some 15) rfl rfl Try.func34 (by kernel_rfl) rfl #[.int .i64 i] rfl (by (try simp only [List.map_toArray, List.map_cons, List.map_nil]); first | done | rfl) ?_; (with_reducible refine (ref_out i _ hi.out).mono ?_); rintro e w' ⟨rfl, ⟨nd, rfl⟩⟩; refine ⟨_, rfl, ?_⟩) | ((with_reducible refine gate_callee (f := 35) rfl ?_); refine goesL_ (some 20) rfl rfl Try.func35 (by kernel_rfl) rfl #[.int .i64 i] rfl (by (try simp only [List.map_toArray, List.map_cons, List.map_nil]); first | done | rfl) ?_; (with_reducible refine (prim_out i _ hi.out).mono ?_); rintro e w' ⟨rfl, ⟨nd, rfl⟩⟩; refine ⟨_, rfl, ?_⟩) | ((with_reducible refine gate_callee (f := 34) rfl ?_); refine goesL_ (some 25) rfl rfl Try.func34 (by kernel_rfl) rfl #[.int .i64 j] rfl (by (try simp only [List.map_toArray, List.map_cons, List.map_nil]); first | done | rfl) ?_; (with_reducible refine (ref_out j _ hj.out).mono ?_); rintro e w' ⟨rfl, ⟨nd, rfl⟩⟩; refine ⟨_, rfl, ?_⟩) | ((with_reducible refine gate_callee (f := 35) rfl ?_); refine goesL_ (some 30) rfl rfl Try.func35 (by kernel_rfl) rfl #[.int .i64 j] rfl (by (try simp only [List.map_toArray, List.map_cons, List.map_nil]); first | done | rfl) ?_; (with_reducible refine (prim_out j _ hj.out).mono ?_); rintro e w' ⟨rfl, ⟨nd, rfl⟩⟩; refine ⟨_, rfl, ?_⟩) | (go_at_call 17; (with_reducible refine (num_c _ _).mono ?_); rintro e w' ⟨rfl, ⟨nd, rfl⟩⟩) | (go_at_call 18; (with_reducible refine (live_c _).mono ?_); rintro e w' ⟨rfl, ⟨nd, rfl⟩⟩) | (go_at_call 19; (with_reducible refine (int_c _ _).mono ?_); rintro e w' ⟨rfl, ⟨nd, rfl⟩⟩) | (go_at_call 30; (first | (with_reducible refine (truth_c (i * 4 + 2) _ t2.out.1 t2.out.2).mono ?_) | (with_reducible refine (truth_c (i * 4 + 3) _ t3.out.1 t3.out.2).mono ?_)); rintro e w' ⟨rfl, ⟨nd, rfl⟩⟩))
  go_ret
  exact ⟨rfl, by repeat (first | exact Drawn0.refl _ | apply Drawn0.step)⟩
set_option maxHeartbeats 8000000 in
set_option maxRecDepth 100000 in
theorem apart_io (i j : Int) (w : World) (i0 : Aside0 (0 ≤ i)) (i1 : Aside0 (i ≤ 2147483647)) (hj : Aside0 (¬(0 ≤ j ∧ j ≤ 2147483647))) :
    Calls Try.prog 11 #[.int .i64 i, .int .i64 j] w fun e w' => e = .returned (.bool true) ∧ Drawn0 w w' := by
  go_enter Try.func11, Try.ntmps11
  go_wp2_with (first | ((with_reducible refine gate_callee (f := 34) rfl ?_); refine goesL_ (some 15) rfl rfl Try.func34 (by kernel_rfl) rfl #[.int .i64 i] rfl (by (try simp only [List.map_toArray, List.map_cons, List.map_nil]); first | done | rfl) ?_; (with_reducible refine (ref_in i _ i0.out i1.out).mono ?_); rintro e w' ⟨rfl, ⟨nd, rfl⟩⟩; refine ⟨_, rfl, ?_⟩) | ((with_reducible refine gate_callee (f := 35) rfl ?_); refine goesL_ (some 20) rfl rfl Try.func35 (by kernel_rfl) rfl #[.int .i64 i] rfl (by (try simp only [List.map_toArray, List.map_cons, List.map_nil]); first | done | rfl) ?_; (with_reducible refine (prim_in i _ i0.out i1.out).mono ?_); rintro e w' ⟨rfl, ⟨nd, rfl⟩⟩; refine ⟨_, rfl, ?_⟩) | ((with_reducible refine gate_callee (f := 34) rfl ?_); refine goesL_ (some 25) rfl rfl Try.func34 (by kernel_rfl) rfl #[.int .i64 j] rfl (by (try simp only [List.map_toArray, List.map_cons, List.map_nil]); first | done | rfl) ?_; (with_reducible refine (ref_out j _ hj.out).mono ?_); rintro e w' ⟨rfl, ⟨nd, rfl⟩⟩; refine ⟨_, rfl, ?_⟩) | ((with_reducible refine gate_callee (f := 35) rfl ?_); refine goesL_ (some 30) rfl rfl Try.func35 (by kernel_rfl) rfl #[.int .i64 j] rfl (by (try simp only [List.map_toArray, List.map_cons, List.map_nil]); first | done | rfl) ?_; (with_reducible refine (prim_out j _ hj.out).mono ?_); rintro e w' ⟨rfl, ⟨nd, rfl⟩⟩; refine ⟨_, rfl, ?_⟩) | (go_at_call 17; (with_reducible refine (num_c _ _).mono ?_); rintro e w' ⟨rfl, ⟨nd, rfl⟩⟩) | (go_at_call 18; (with_reducible refine (live_c _).mono ?_); rintro e w' ⟨rfl, ⟨nd, rfl⟩⟩) | (go_at_call 19; (with_reducible refine (int_c _ _).mono ?_); rintro e w' ⟨rfl, ⟨nd, rfl⟩⟩) | (go_at_call 30; (first | (with_reducible refine (truth_c (i * 4 + 2) _ t2.out.1 t2.out.2).mono ?_) | (with_reducible refine (truth_c (i * 4 + 3) _ t3.out.1 t3.out.2).mono ?_)); rintro e w' ⟨rfl, ⟨nd, rfl⟩⟩))
  go_ret
  exact ⟨rfl, by repeat (first | exact Drawn0.refl _ | apply Drawn0.step)⟩
set_option maxHeartbeats 8000000 in
set_option maxRecDepth 100000 in
theorem apart_oi (i j : Int) (w : World) (hi : Aside0 (¬(0 ≤ i ∧ i ≤ 2147483647))) (j0 : Aside0 (0 ≤ j)) (j1 : Aside0 (j ≤ 2147483647)) :
    Calls Try.prog 11 #[.int .i64 i, .int .i64 j] w fun e w' => e = .returned (.bool true) ∧ Drawn0 w w' := by
  go_enter Try.func11, Try.ntmps11
  go_wp2_with (first | ((with_reducible refine gate_callee (f := 34) rfl ?_); refine goesL_ (some 15) rfl rfl Try.func34 (by kernel_rfl) rfl #[.int .i64 i] rfl (by (try simp only [List.map_toArray, List.map_cons, List.map_nil]); first | done | rfl) ?_; (with_reducible refine (ref_out i _ hi.out).mono ?_); rintro e w' ⟨rfl, ⟨nd, rfl⟩⟩; refine ⟨_, rfl, ?_⟩) | ((with_reducible refine gate_callee (f := 35) rfl ?_); refine goesL_ (some 20) rfl rfl Try.func35 (by kernel_rfl) rfl #[.int .i64 i] rfl (by (try simp only [List.map_toArray, List.map_cons, List.map_nil]); first | done | rfl) ?_; (with_reducible refine (prim_out i _ hi.out).mono ?_); rintro e w' ⟨rfl, ⟨nd, rfl⟩⟩; refine ⟨_, rfl, ?_⟩) | ((with_reducible refine gate_callee (f := 34) rfl ?_); refine goesL_ (some 25) rfl rfl Try.func34 (by kernel_rfl) rfl #[.int .i64 j] rfl (by (try simp only [List.map_toArray, List.map_cons, List.map_nil]); first | done | rfl) ?_; (with_reducible refine (ref_in j _ j0.out j1.out).mono ?_); rintro e w' ⟨rfl, ⟨nd, rfl⟩⟩; refine ⟨_, rfl, ?_⟩) | ((with_reducible refine gate_callee (f := 35) rfl ?_); refine goesL_ (some 30) rfl rfl Try.func35 (by kernel_rfl) rfl #[.int .i64 j] rfl (by (try simp only [List.map_toArray, List.map_cons, List.map_nil]); first | done | rfl) ?_; (with_reducible refine (prim_in j _ j0.out j1.out).mono ?_); rintro e w' ⟨rfl, ⟨nd, rfl⟩⟩; refine ⟨_, rfl, ?_⟩) | (go_at_call 17; (with_reducible refine (num_c _ _).mono ?_); rintro e w' ⟨rfl, ⟨nd, rfl⟩⟩) | (go_at_call 18; (with_reducible refine (live_c _).mono ?_); rintro e w' ⟨rfl, ⟨nd, rfl⟩⟩) | (go_at_call 19; (with_reducible refine (int_c _ _).mono ?_); rintro e w' ⟨rfl, ⟨nd, rfl⟩⟩) | (go_at_call 30; (first | (with_reducible refine (truth_c (i * 4 + 2) _ t2.out.1 t2.out.2).mono ?_) | (with_reducible refine (truth_c (i * 4 + 3) _ t3.out.1 t3.out.2).mono ?_)); rintro e w' ⟨rfl, ⟨nd, rfl⟩⟩))
  go_ret
  exact ⟨rfl, by repeat (first | exact Drawn0.refl _ | apply Drawn0.step)⟩
set_option maxHeartbeats 8000000 in
set_option maxRecDepth 100000 in
theorem apart_ii (i j : Int) (w : World) (i0 : Aside0 (0 ≤ i)) (i1 : Aside0 (i ≤ 2147483647)) (j0 : Aside0 (0 ≤ j)) (j1 : Aside0 (j ≤ 2147483647)) (hij : Aside0 (i ≠ j)) :
    Calls Try.prog 11 #[.int .i64 i, .int .i64 j] w fun e w' => e = .returned (.bool true) ∧ Drawn0 w w' := by
  have b1 : ((i * 4 + 2) != (i * 4 + 3)) = true := bne_iff_ne.2 (by omega)
  have b2 : ((i * 4 + 2) != iw i) = true := bne_iff_ne.2 (by have := iw_four i; omega)
  have b3 : ((i * 4 + 3) != iw i) = true := bne_iff_ne.2 (by have := iw_four i; omega)
  have t2 : Aside0 (i * 4 + 2 ≠ 1 ∧ i * 4 + 2 ≠ 5) := ⟨by omega⟩
  have t3 : Aside0 (i * 4 + 3 ≠ 1 ∧ i * 4 + 3 ≠ 5) := ⟨by omega⟩
  have c1 : ((i * 4 + 2) == (j * 4 + 2)) = false := beq_eq_false_iff_ne.2 (by have := hij.out; omega)
  have c2 : ((i * 4 + 3) == (j * 4 + 3)) = false := beq_eq_false_iff_ne.2 (by have := hij.out; omega)
  have c3 : (i == j) = false := beq_eq_false_iff_ne.2 hij.out
  go_enter Try.func11, Try.ntmps11
  go_wp2_with (first | ((with_reducible refine gate_callee (f := 34) rfl ?_); refine goesL_ (some 15) rfl rfl Try.func34 (by kernel_rfl) rfl #[.int .i64 i] rfl (by (try simp only [List.map_toArray, List.map_cons, List.map_nil]); first | done | rfl) ?_; (with_reducible refine (ref_in i _ i0.out i1.out).mono ?_); rintro e w' ⟨rfl, ⟨nd, rfl⟩⟩; refine ⟨_, rfl, ?_⟩) | ((with_reducible refine gate_callee (f := 35) rfl ?_); refine goesL_ (some 20) rfl rfl Try.func35 (by kernel_rfl) rfl #[.int .i64 i] rfl (by (try simp only [List.map_toArray, List.map_cons, List.map_nil]); first | done | rfl) ?_; (with_reducible refine (prim_in i _ i0.out i1.out).mono ?_); rintro e w' ⟨rfl, ⟨nd, rfl⟩⟩; refine ⟨_, rfl, ?_⟩) | ((with_reducible refine gate_callee (f := 34) rfl ?_); refine goesL_ (some 25) rfl rfl Try.func34 (by kernel_rfl) rfl #[.int .i64 j] rfl (by (try simp only [List.map_toArray, List.map_cons, List.map_nil]); first | done | rfl) ?_; (with_reducible refine (ref_in j _ j0.out j1.out).mono ?_); rintro e w' ⟨rfl, ⟨nd, rfl⟩⟩; refine ⟨_, rfl, ?_⟩) | ((with_reducible refine gate_callee (f := 35) rfl ?_); refine goesL_ (some 30) rfl rfl Try.func35 (by kernel_rfl) rfl #[.int .i64 j] rfl (by (try simp only [List.map_toArray, List.map_cons, List.map_nil]); first | done | rfl) ?_; (with_reducible refine (prim_in j _ j0.out j1.out).mono ?_); rintro e w' ⟨rfl, ⟨nd, rfl⟩⟩; refine ⟨_, rfl, ?_⟩) | (go_at_call 17; (with_reducible refine (num_c _ _).mono ?_); rintro e w' ⟨rfl, ⟨nd, rfl⟩⟩) | (go_at_call 18; (with_reducible refine (live_c _).mono ?_); rintro e w' ⟨rfl, ⟨nd, rfl⟩⟩) | (go_at_call 19; (with_reducible refine (int_c _ _).mono ?_); rintro e w' ⟨rfl, ⟨nd, rfl⟩⟩) | (go_at_call 30; (first | (with_reducible refine (truth_c (i * 4 + 2) _ t2.out.1 t2.out.2).mono ?_) | (with_reducible refine (truth_c (i * 4 + 3) _ t3.out.1 t3.out.2).mono ?_)); rintro e w' ⟨rfl, ⟨nd, rfl⟩⟩))
  go_ret
  exact ⟨rfl, by repeat (first | exact Drawn0.refl _ | apply Drawn0.step)⟩
set_option maxHeartbeats 8000000 in
set_option maxRecDepth 100000 in
theorem apart_same (i : Int) (w : World) (i0 : Aside0 (0 ≤ i)) (i1 : Aside0 (i ≤ 2147483647)) :
    Calls Try.prog 11 #[.int .i64 i, .int .i64 i] w fun e w' => e = .returned (.bool true) ∧ Drawn0 w w' := by
  have b1 : ((i * 4 + 2) != (i * 4 + 3)) = true := bne_iff_ne.2 (by omega)
  have b2 : ((i * 4 + 2) != iw i) = true := bne_iff_ne.2 (by have := iw_four i; omega)
  have b3 : ((i * 4 + 3) != iw i) = true := bne_iff_ne.2 (by have := iw_four i; omega)
  have t2 : Aside0 (i * 4 + 2 ≠ 1 ∧ i * 4 + 2 ≠ 5) := ⟨by omega⟩
  have t3 : Aside0 (i * 4 + 3 ≠ 1 ∧ i * 4 + 3 ≠ 5) := ⟨by omega⟩
  go_enter Try.func11, Try.ntmps11
  go_wp2_with (first | ((with_reducible refine gate_callee (f := 34) rfl ?_); refine goesL_ (some 15) rfl rfl Try.func34 (by kernel_rfl) rfl #[.int .i64 i] rfl (by (try simp only [List.map_toArray, List.map_cons, List.map_nil]); first | done | rfl) ?_; (with_reducible refine (ref_in i _ i0.out i1.out).mono ?_); rintro e w' ⟨rfl, ⟨nd, rfl⟩⟩; refine ⟨_, rfl, ?_⟩) | ((with_reducible refine gate_callee (f := 35) rfl ?_); refine goesL_ (some 20) rfl rfl Try.func35 (by kernel_rfl) rfl #[.int .i64 i] rfl (by (try simp only [List.map_toArray, List.map_cons, List.map_nil]); first | done | rfl) ?_; (with_reducible refine (prim_in i _ i0.out i1.out).mono ?_); rintro e w' ⟨rfl, ⟨nd, rfl⟩⟩; refine ⟨_, rfl, ?_⟩) | ((with_reducible refine gate_callee (f := 34) rfl ?_); refine goesL_ (some 25) rfl rfl Try.func34 (by kernel_rfl) rfl #[.int .i64 i] rfl (by (try simp only [List.map_toArray, List.map_cons, List.map_nil]); first | done | rfl) ?_; (with_reducible refine (ref_in i _ i0.out i1.out).mono ?_); rintro e w' ⟨rfl, ⟨nd, rfl⟩⟩; refine ⟨_, rfl, ?_⟩) | ((with_reducible refine gate_callee (f := 35) rfl ?_); refine goesL_ (some 30) rfl rfl Try.func35 (by kernel_rfl) rfl #[.int .i64 i] rfl (by (try simp only [List.map_toArray, List.map_cons, List.map_nil]); first | done | rfl) ?_; (with_reducible refine (prim_in i _ i0.out i1.out).mono ?_); rintro e w' ⟨rfl, ⟨nd, rfl⟩⟩; refine ⟨_, rfl, ?_⟩) | (go_at_call 17; (with_reducible refine (num_c _ _).mono ?_); rintro e w' ⟨rfl, ⟨nd, rfl⟩⟩) | (go_at_call 18; (with_reducible refine (live_c _).mono ?_); rintro e w' ⟨rfl, ⟨nd, rfl⟩⟩) | (go_at_call 19; (with_reducible refine (int_c _ _).mono ?_); rintro e w' ⟨rfl, ⟨nd, rfl⟩⟩) | (go_at_call 30; (first | (with_reducible refine (truth_c (i * 4 + 2) _ t2.out.1 t2.out.2).mono ?_) | (with_reducible refine (truth_c (i * 4 + 3) _ t3.out.1 t3.out.2).mono ?_)); rintro e w' ⟨rfl, ⟨nd, rfl⟩⟩))
  go_ret
  exact ⟨rfl, by repeat (first | exact Drawn0.refl _ | apply Drawn0.step)⟩

theorem apart (i j : Int) (w : World) : Calls Try.prog 11 #[.int .i64 i, .int .i64 j] w fun e w' => e = .returned (.bool true) ∧ Drawn0 w w' := by
  by_cases hi : 0 ≤ i ∧ i ≤ 2147483647
  · by_cases hj : 0 ≤ j ∧ j ≤ 2147483647
    · by_cases h : i = j
      · subst h
        exact apart_same i w ⟨hi.1⟩ ⟨hi.2⟩
      · exact apart_ii i j w ⟨hi.1⟩ ⟨hi.2⟩ ⟨hj.1⟩ ⟨hj.2⟩ ⟨h⟩
    · exact apart_io i j w ⟨hi.1⟩ ⟨hi.2⟩ ⟨hj⟩
  · by_cases hj : 0 ≤ j ∧ j ≤ 2147483647
    · exact apart_oi i j w ⟨hi⟩ ⟨hj.1⟩ ⟨hj.2⟩
    · exact apart_oo i j w ⟨hi⟩ ⟨hj⟩
end Go.Proofs.Ytojohijgacnljaa.Apart
