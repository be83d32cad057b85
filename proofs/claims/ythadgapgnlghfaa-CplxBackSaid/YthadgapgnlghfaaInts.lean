/- CplxInts: of small integers sums, differences and products are the integers' own. The walk, for all integers. -/
import Derived.Test.YthadgapgnlghfaaExact
namespace Go.Proofs.Ythadgapgnlghfaa
open Go Go.RowKit Go.Proofs.Ythadgapgnlghfaa.Dbl

def RetV (n m : Int) (w : World) (e : Ending) (w' : World) : Prop := ∃ a b, (V a n ∧ V b m) ∧ e = .returned (.complex .f64 a b) ∧ ∃ k, w' = w.drewN k

theorem make_v (x y : Int) (w : World) : Calls Try.prog 12 #[.int .i64 x, .int .i64 y] w (RetV x y w) :=
  (make_c x y w).mono fun _ _ ⟨h1, h2⟩ => ⟨_, _, ⟨V_iword x, V_iword y⟩, h1, 0, h2.symm⟩
theorem add_v (a b c d : Nat) (x y u v : Int) (w : World) (h : V a x ∧ V b y) (h' : V c u ∧ V d v) (b0 : x.natAbs ≤ 9007199254740992) (b1 : y.natAbs ≤ 9007199254740992) (b2 : u.natAbs ≤ 9007199254740992) (b3 : v.natAbs ≤ 9007199254740992)
    (b4 : (x + u).natAbs ≤ 9007199254740992) (b5 : (y + v).natAbs ≤ 9007199254740992) : Calls Try.prog 14 #[.complex .f64 a b, .complex .f64 c d] w (RetV (x + u) (y + v) w) :=
  (add_c a b c d w).mono fun _ _ ⟨p, q, ⟨h1, h2⟩, he, hw⟩ => ⟨p, q, ⟨V_FR_add h1 h.1 h'.1 b0 b2 b4, V_FR_add h2 h.2 h'.2 b1 b3 b5⟩, he, hw⟩
theorem sub_v (a b c d : Nat) (x y u v : Int) (w : World) (h : V a x ∧ V b y) (h' : V c u ∧ V d v) (b0 : x.natAbs ≤ 9007199254740992) (b1 : y.natAbs ≤ 9007199254740992) (b2 : u.natAbs ≤ 9007199254740992) (b3 : v.natAbs ≤ 9007199254740992)
    (b4 : (x - u).natAbs ≤ 9007199254740992) (b5 : (y - v).natAbs ≤ 9007199254740992) : Calls Try.prog 15 #[.complex .f64 a b, .complex .f64 c d] w (RetV (x - u) (y - v) w) :=
  (sub_c a b c d w).mono fun _ _ ⟨p, q, ⟨h1, h2⟩, he, hw⟩ => ⟨p, q, ⟨V_FR_sub h1 h.1 h'.1 b0 b2 b4, V_FR_sub h2 h.2 h'.2 b1 b3 b5⟩, he, hw⟩
theorem mul_v (a b c d : Nat) (x y u v : Int) (w : World) (h : V a x ∧ V b y) (h' : V c u ∧ V d v) (b0 : x.natAbs ≤ 9007199254740992) (b1 : y.natAbs ≤ 9007199254740992) (b2 : u.natAbs ≤ 9007199254740992) (b3 : v.natAbs ≤ 9007199254740992)
    (c1 : (x * u).natAbs ≤ 4503599627370496) (c2 : (y * v).natAbs ≤ 4503599627370496) (c3 : (x * v).natAbs ≤ 4503599627370496) (c4 : (y * u).natAbs ≤ 4503599627370496) :
    Calls Try.prog 16 #[.complex .f64 a b, .complex .f64 c d] w (RetV (x * u - y * v) (x * v + y * u) w) :=
  (mul_c a b c d w).mono fun _ _ ⟨p, q, ⟨_, _, _, _, h1, h2, h3, h4, h5, h6⟩, he, hw⟩ =>
    ⟨p, q, ⟨V_FR_sub h3 (V_FR_mul h1 h.1 h'.1 b0 b2 (by omega)) (V_FR_mul h2 h.2 h'.2 b1 b3 (by omega)) (by omega) (by omega) (by omega),
      V_FR_add h6 (V_FR_mul h4 h.1 h'.2 b0 b3 (by omega)) (V_FR_mul h5 h.2 h'.1 b1 b2 (by omega)) (by omega) (by omega) (by omega)⟩, he, hw⟩
theorem conj_v (a b : Nat) (x y : Int) (w : World) (h : V a x ∧ V b y) (b1 : y.natAbs ≤ 9007199254740992) : Calls Try.prog 17 #[.complex .f64 a b] w (RetV x (-y) w) :=
  (conj_c a b w).mono fun _ _ ⟨h1, h2⟩ => ⟨_, _, ⟨h.1, V_ng h.2 b1⟩, h1, 0, h2.symm⟩

theorem mul_bd {x y : Int} (h1 : x.natAbs ≤ 1048576) (h2 : y.natAbs ≤ 1048576) : (x * y).natAbs ≤ 1099511627776 := by
  rw [Int.natAbs_mul]
  exact Nat.mul_le_mul h1 h2

set_option maxRecDepth 100000 in
set_option maxHeartbeats 4000000 in
theorem ints_out (a b c d : Int) (w : World) (h : a < -1048576 ∨ b < -1048576 ∨ c < -1048576 ∨ d < -1048576 ∨ 1048576 < a ∨ 1048576 < b ∨ 1048576 < c ∨ 1048576 < d) :
    Calls Try.prog 3 #[.int .i64 a, .int .i64 b, .int .i64 c, .int .i64 d] w fun e w' => e = .returned (.bool true) ∧ Below w.heap.size w w' := by
  obtain h0 | ⟨h0, h1⟩ | ⟨h0, h1, h2⟩ | ⟨h0, h1, h2, h3⟩ | ⟨h0, h1, h2, h3, h4⟩ | ⟨h0, h1, h2, h3, h4, h5⟩ | ⟨h0, h1, h2, h3, h4, h5, h6⟩ | ⟨h0, h1, h2, h3, h4, h5, h6, h7⟩ : (a < -1048576) ∨ (-1048576 ≤ a ∧ b < -1048576) ∨ (-1048576 ≤ a ∧ -1048576 ≤ b ∧ c < -1048576) ∨ (-1048576 ≤ a ∧ -1048576 ≤ b ∧ -1048576 ≤ c ∧ d < -1048576) ∨ (-1048576 ≤ a ∧ -1048576 ≤ b ∧ -1048576 ≤ c ∧ -1048576 ≤ d ∧ 1048576 < a) ∨ (-1048576 ≤ a ∧ -1048576 ≤ b ∧ -1048576 ≤ c ∧ -1048576 ≤ d ∧ a ≤ 1048576 ∧ 1048576 < b) ∨ (-1048576 ≤ a ∧ -1048576 ≤ b ∧ -1048576 ≤ c ∧ -1048576 ≤ d ∧ a ≤ 1048576 ∧ b ≤ 1048576 ∧ 1048576 < c) ∨ (-1048576 ≤ a ∧ -1048576 ≤ b ∧ -1048576 ≤ c ∧ -1048576 ≤ d ∧ a ≤ 1048576 ∧ b ≤ 1048576 ∧ c ≤ 1048576 ∧ 1048576 < d) := by omega
  all_goals
    clear h
    go_enter Try.func3, Try.ntmps3
    go_wp2_with (go_at_call 11; refine (live_c _).mono ?_; rintro e w2 ⟨rfl, hl⟩)
    go_ret
    exact ⟨rfl, hl⟩

set_option maxRecDepth 100000 in
set_option maxHeartbeats 1000000 in
theorem ints_in (a b c d : Int) (w : World) (a0 : -1048576 ≤ a) (a1 : a ≤ 1048576) (b0 : -1048576 ≤ b) (b1 : b ≤ 1048576) (c0 : -1048576 ≤ c) (c1 : c ≤ 1048576) (d0 : -1048576 ≤ d) (d1 : d ≤ 1048576) :
    Calls Try.prog 3 #[.int .i64 a, .int .i64 b, .int .i64 c, .int .i64 d] w fun e w' => e = .returned (.bool true) ∧ Below w.heap.size w w' := by
  have m1 := mul_bd (x := a) (y := c) (by omega) (by omega)
  have m2 := mul_bd (x := b) (y := d) (by omega) (by omega)
  have m3 := mul_bd (x := a) (y := d) (by omega) (by omega)
  have m4 := mul_bd (x := b) (y := c) (by omega) (by omega)
  go_enter Try.func3, Try.ntmps3
  go_wp2_with (first
    | (go_at_call 12; refine (make_v _ _ _).mono ?_; rintro e w' ⟨x, y, hv, rfl, k, rfl⟩)
    | (go_at_call 14; refine (add_v _ _ _ _ a b c d _ ‹_› ‹_› (by omega) (by omega) (by omega) (by omega) (by omega) (by omega)).mono ?_; rintro e w' ⟨x, y, hv, rfl, k, rfl⟩)
    | (go_at_call 15; refine (sub_v _ _ _ _ a b c d _ ‹_› ‹_› (by omega) (by omega) (by omega) (by omega) (by omega) (by omega)).mono ?_; rintro e w' ⟨x, y, hv, rfl, k, rfl⟩)
    | (go_at_call 16; refine (mul_v _ _ _ _ a b c d _ ‹_› ‹_› (by omega) (by omega) (by omega) (by omega) (by omega) (by omega) (by omega) (by omega)).mono ?_; rintro e w' ⟨x, y, hv, rfl, k, rfl⟩)
    | (go_at_call 17; refine (conj_v _ _ a b _ ‹_› (by omega)).mono ?_; rintro e w' ⟨x, y, hv, rfl, k, rfl⟩)
    | (go_at_call 13; refine (part_V _ _ _ _ _ hv.1 hv.2 (by omega) (by omega)).mono ?_; rintro e w' ⟨rfl, rfl⟩)
    | (go_at_call 11; refine (live_c _).mono ?_; rintro e w2 ⟨rfl, hl⟩))
  go_ret
  exact ⟨rfl, Below.step (below_drewN (Below.refl _ _) _) hl⟩

theorem ints_walk (a b c d : Int) (w : World) : Calls Try.prog 3 #[.int .i64 a, .int .i64 b, .int .i64 c, .int .i64 d] w fun e w' => e = .returned (.bool true) ∧ Below w.heap.size w w' := by
  by_cases h : a < -1048576 ∨ b < -1048576 ∨ c < -1048576 ∨ d < -1048576 ∨ 1048576 < a ∨ 1048576 < b ∨ 1048576 < c ∨ 1048576 < d
  · exact ints_out a b c d w h
  · exact ints_in a b c d w (by omega) (by omega) (by omega) (by omega) (by omega) (by omega) (by omega) (by omega)
end Go.Proofs.Ythadgapgnlghfaa
