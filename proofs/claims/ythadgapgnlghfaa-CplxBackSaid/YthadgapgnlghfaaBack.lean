/- CplxBack: what is made of integers up to 2^53 is told as them; sums of such are the integers' sums. The walk, for all integers. -/
import Derived.Test.YthadgapgnlghfaaInts
namespace Go.Proofs.Ythadgapgnlghfaa
open Go Go.RowKit Go.Proofs.Ythadgapgnlghfaa.Dbl

theorem iword_zero : iword 0 = 0 := by decide
theorem sub_self_zero {x r : Nat} {n : Int} (hx : V x n) (hn : n.natAbs ≤ 9007199254740992) (h : FR .sub x x r) : r = 0 := by
  obtain ⟨s, m, e, hd, _⟩ := read_V hx (by simpa using hn)
  have hs : D.sub x x = some 0 := by
    unfold Ieee.Format.sub
    rw [hd]
    have ht : (Ieee.Datum.number s m e).sum (Ieee.Datum.number s m e).opposite = some (.number false 0 e) := by
      simp only [Ieee.Datum.opposite, Ieee.Datum.sum]
      have e0 : (e - min e e).toNat = 0 := by omega
      have hz : Ieee.signed s m (e - min e e).toNat + Ieee.signed (!s) m (e - min e e).toNat = 0 := by
        rw [signed_eq, signed_eq]; cases s <;> simp <;> omega
      rw [hz]
      have em : min e e = e := by omega
      cases s <;> simp [em]
    rw [ht]
    have hw : D.write (.number false 0 e) = 0 := by
      show D.nearest false 0 e = 0
      unfold Ieee.Format.nearest
      rw [if_pos rfl]; rfl
    simp [hw]
  exact FR_val h hs

theorem back_same {a c : Int} {u r : Nat} (ha : a.natAbs ≤ 4503599627370496) (hc : c.natAbs ≤ 4503599627370496) (h1 : FR .add (iword a) (iword c) u) (h2 : FR .sub u (iword c) r) : r = iword a := by
  have hu := V_FR_add h1 (V_iword a) (V_iword c) (by omega) (by omega) (by omega)
  have hr := V_FR_sub h2 hu (V_iword c) (by omega) (by omega) (by omega)
  rw [show a + c - c = a by omega] at hr
  by_cases h0 : a = 0
  · subst h0
    rw [iword_zero]
    rw [Int.zero_add] at hu
    by_cases hc0 : c = 0
    · subst hc0
      rw [iword_zero] at h1 h2
      have e : u = 0 := FR_val h1 (by kernel_rfl)
      subst e
      exact sub_self_zero (n := 0) (iword_zero ▸ V_iword 0) (by omega) h2
    · rw [hu.1 hc0] at h2
      exact sub_self_zero (V_iword c) (by omega) h2
  · exact hr.1 h0

theorem sub_back (a b c d : Int) (u v : Nat) (w : World) (ha : a.natAbs ≤ 4503599627370496) (hb : b.natAbs ≤ 4503599627370496) (hc : c.natAbs ≤ 4503599627370496) (hd : d.natAbs ≤ 4503599627370496)
    (h : FR .add (iword a) (iword c) u ∧ FR .add (iword b) (iword d) v) : Calls Try.prog 15 #[.complex .f64 u v, .complex .f64 (iword c) (iword d)] w fun e w' => e = .returned (.complex .f64 (iword a) (iword b)) ∧ ∃ n, w' = w.drewN n := by
  refine (sub_c _ _ _ _ w).mono ?_
  rintro e w' ⟨r, s, ⟨h1, h2⟩, rfl, n, rfl⟩
  rw [back_same ha hc h.1 h1, back_same hb hd h.2 h2]
  exact ⟨rfl, n, rfl⟩

theorem part_re_i (a b : Int) (w : World) (ha : a.natAbs ≤ 9007199254740992) : Calls Try.prog 18 #[.complex .f64 (iword a) (iword b), .bool false] w fun e w' => e = .returned (.tuple #[.int .i64 a, .int .i64 0]) ∧ w = w' := by
  have := part_re (iword a) (iword b) w
  rw [(V_part (V_iword a) ha).1, (V_part (V_iword a) ha).2] at this
  exact this
theorem part_im_i (a b : Int) (w : World) (hb : b.natAbs ≤ 9007199254740992) : Calls Try.prog 18 #[.complex .f64 (iword a) (iword b), .bool true] w fun e w' => e = .returned (.tuple #[.int .i64 b, .int .i64 0]) ∧ w = w' := by
  have := part_im (iword a) (iword b) w
  rw [(V_part (V_iword b) hb).1, (V_part (V_iword b) hb).2] at this
  exact this
theorem sameB_self' (a b : Nat) : sameB a b a b = true := by simp [sameB]
theorem same_self (a b : Nat) (w : World) : Calls Try.prog 20 #[.complex .f64 a b, .complex .f64 a b] w fun e w' => e = .returned (.bool true) ∧ w = w' := by
  have := same_c a b a b w
  rw [sameB_self'] at this
  exact this

set_option maxRecDepth 100000 in
set_option maxHeartbeats 8000000 in
theorem back_out (a b c d : Int) (w : World) (h : a < -9007199254740992 ∨ b < -9007199254740992 ∨ 9007199254740992 < a ∨ 9007199254740992 < b) :
    Calls Try.prog 4 #[.int .i64 a, .int .i64 b, .int .i64 c, .int .i64 d] w fun e w' => e = .returned (.bool true) ∧ Below w.heap.size w w' := by
  obtain h0 | ⟨h0, h1⟩ | ⟨h0, h1, h2⟩ | ⟨h0, h1, h2, h3⟩ : (a < -9007199254740992) ∨ (-9007199254740992 ≤ a ∧ b < -9007199254740992) ∨ (-9007199254740992 ≤ a ∧ -9007199254740992 ≤ b ∧ 9007199254740992 < a) ∨ (-9007199254740992 ≤ a ∧ -9007199254740992 ≤ b ∧ a ≤ 9007199254740992 ∧ 9007199254740992 < b) := by omega
  all_goals
    clear h
    go_enter Try.func4, Try.ntmps4
    go_wp2_with (go_at_call 11; refine (live_c _).mono ?_; rintro e w2 ⟨rfl, hl⟩)
    go_ret
    exact ⟨rfl, hl⟩

set_option maxRecDepth 100000 in
set_option maxHeartbeats 8000000 in
theorem back_mid (a b c d : Int) (w : World) (p0 : -9007199254740992 ≤ a) (p1 : -9007199254740992 ≤ b) (p2 : a ≤ 9007199254740992) (p3 : b ≤ 9007199254740992) (h : c < -9007199254740992 ∨ d < -9007199254740992 ∨ 9007199254740992 < c ∨ 9007199254740992 < d) :
    Calls Try.prog 4 #[.int .i64 a, .int .i64 b, .int .i64 c, .int .i64 d] w fun e w' => e = .returned (.bool true) ∧ Below w.heap.size w w' := by
  have HA : Hid (a.natAbs ≤ 9007199254740992) := Lib.hid (by omega)
  have HB : Hid (b.natAbs ≤ 9007199254740992) := Lib.hid (by omega)
  obtain h0 | ⟨h0, h1⟩ | ⟨h0, h1, h2⟩ | ⟨h0, h1, h2, h3⟩ : (c < -9007199254740992) ∨ (-9007199254740992 ≤ c ∧ d < -9007199254740992) ∨ (-9007199254740992 ≤ c ∧ -9007199254740992 ≤ d ∧ 9007199254740992 < c) ∨ (-9007199254740992 ≤ c ∧ -9007199254740992 ≤ d ∧ c ≤ 9007199254740992 ∧ 9007199254740992 < d) := by omega
  all_goals
    clear h
    go_enter Try.func4, Try.ntmps4
    go_wp2_with (first
      | (go_at_call 12; refine (make_c _ _ _).mono ?_; rintro e w' ⟨rfl, rfl⟩)
      | (go_at_call 18; (first | (with_reducible refine (part_re_i a b _ HA.out).mono ?_) | (with_reducible refine (part_im_i a b _ HB.out).mono ?_)); rintro e w' ⟨rfl, rfl⟩)
      | (go_at_call 19; refine (num_c _ _).mono ?_; rintro e w' ⟨rfl, rfl⟩)
      | (go_at_call 11; refine (live_c _).mono ?_; rintro e w2 ⟨rfl, hl⟩))
    go_ret
    exact ⟨rfl, hl⟩

set_option maxRecDepth 100000 in
set_option maxHeartbeats 8000000 in
theorem back_big (a b c d : Int) (w : World) (p0 : -9007199254740992 ≤ a) (p1 : -9007199254740992 ≤ b) (p2 : a ≤ 9007199254740992) (p3 : b ≤ 9007199254740992) (q0 : -9007199254740992 ≤ c) (q1 : -9007199254740992 ≤ d) (q2 : c ≤ 9007199254740992) (q3 : d ≤ 9007199254740992) (h : 4503599627370496 < a ∨ 4503599627370496 < b ∨ 4503599627370496 < c ∨ 4503599627370496 < d ∨ a < -4503599627370496 ∨ b < -4503599627370496 ∨ c < -4503599627370496 ∨ d < -4503599627370496) :
    Calls Try.prog 4 #[.int .i64 a, .int .i64 b, .int .i64 c, .int .i64 d] w fun e w' => e = .returned (.bool true) ∧ Below w.heap.size w w' := by
  have HA : Hid (a.natAbs ≤ 9007199254740992) := Lib.hid (by omega)
  have HB : Hid (b.natAbs ≤ 9007199254740992) := Lib.hid (by omega)
  obtain h0 | ⟨h0, h1⟩ | ⟨h0, h1, h2⟩ | ⟨h0, h1, h2, h3⟩ | ⟨h0, h1, h2, h3, h4⟩ | ⟨h0, h1, h2, h3, h4, h5⟩ | ⟨h0, h1, h2, h3, h4, h5, h6⟩ | ⟨h0, h1, h2, h3, h4, h5, h6, h7⟩ : (4503599627370496 < a) ∨ (a ≤ 4503599627370496 ∧ 4503599627370496 < b) ∨ (a ≤ 4503599627370496 ∧ b ≤ 4503599627370496 ∧ 4503599627370496 < c) ∨ (a ≤ 4503599627370496 ∧ b ≤ 4503599627370496 ∧ c ≤ 4503599627370496 ∧ 4503599627370496 < d) ∨ (a ≤ 4503599627370496 ∧ b ≤ 4503599627370496 ∧ c ≤ 4503599627370496 ∧ d ≤ 4503599627370496 ∧ a < -4503599627370496) ∨ (a ≤ 4503599627370496 ∧ b ≤ 4503599627370496 ∧ c ≤ 4503599627370496 ∧ d ≤ 4503599627370496 ∧ -4503599627370496 ≤ a ∧ b < -4503599627370496) ∨ (a ≤ 4503599627370496 ∧ b ≤ 4503599627370496 ∧ c ≤ 4503599627370496 ∧ d ≤ 4503599627370496 ∧ -4503599627370496 ≤ a ∧ -4503599627370496 ≤ b ∧ c < -4503599627370496) ∨ (a ≤ 4503599627370496 ∧ b ≤ 4503599627370496 ∧ c ≤ 4503599627370496 ∧ d ≤ 4503599627370496 ∧ -4503599627370496 ≤ a ∧ -4503599627370496 ≤ b ∧ -4503599627370496 ≤ c ∧ d < -4503599627370496) := by omega
  all_goals
    clear h
    go_enter Try.func4, Try.ntmps4
    go_wp2_with (first
      | (go_at_call 12; refine (make_c _ _ _).mono ?_; rintro e w' ⟨rfl, rfl⟩)
      | (go_at_call 18; (first | (with_reducible refine (part_re_i a b _ HA.out).mono ?_) | (with_reducible refine (part_im_i a b _ HB.out).mono ?_)); rintro e w' ⟨rfl, rfl⟩)
      | (go_at_call 19; refine (num_c _ _).mono ?_; rintro e w' ⟨rfl, rfl⟩)
      | (go_at_call 14; refine (add_c _ _ _ _ _).mono ?_; rintro e w' ⟨x, y, hv, rfl, k, rfl⟩) | (go_at_call 15; refine (sub_c _ _ _ _ _).mono ?_; rintro e w' ⟨x, y, hv, rfl, k, rfl⟩) | (go_at_call 11; refine (live_c _).mono ?_; rintro e w2 ⟨rfl, hl⟩))
    go_ret
    exact ⟨rfl, Below.step (below_drewN (Below.refl _ _) _) hl⟩

set_option maxRecDepth 100000 in
set_option maxHeartbeats 8000000 in
theorem back_small (a b c d : Int) (w : World) (p0 : -9007199254740992 ≤ a) (p1 : -9007199254740992 ≤ b) (p2 : a ≤ 9007199254740992) (p3 : b ≤ 9007199254740992) (q0 : -9007199254740992 ≤ c) (q1 : -9007199254740992 ≤ d) (q2 : c ≤ 9007199254740992) (q3 : d ≤ 9007199254740992) (s0 : a ≤ 4503599627370496) (s1 : b ≤ 4503599627370496) (s2 : c ≤ 4503599627370496) (s3 : d ≤ 4503599627370496) (s4 : -4503599627370496 ≤ a) (s5 : -4503599627370496 ≤ b) (s6 : -4503599627370496 ≤ c) (s7 : -4503599627370496 ≤ d) :
    Calls Try.prog 4 #[.int .i64 a, .int .i64 b, .int .i64 c, .int .i64 d] w fun e w' => e = .returned (.bool true) ∧ Below w.heap.size w w' := by
  have HA : Hid (a.natAbs ≤ 9007199254740992) := Lib.hid (by omega)
  have HB : Hid (b.natAbs ≤ 9007199254740992) := Lib.hid (by omega)
  all_goals
    go_enter Try.func4, Try.ntmps4
    go_wp2_with (first
      | (go_at_call 12; refine (make_c _ _ _).mono ?_; rintro e w' ⟨rfl, rfl⟩)
      | (go_at_call 18; (first | (with_reducible refine (part_re_i a b _ HA.out).mono ?_) | (with_reducible refine (part_im_i a b _ HB.out).mono ?_)); rintro e w' ⟨rfl, rfl⟩)
      | (go_at_call 19; refine (num_c _ _).mono ?_; rintro e w' ⟨rfl, rfl⟩)
      | (go_at_call 14; refine (add_c _ _ _ _ _).mono ?_; rintro e w' ⟨x, y, hv, rfl, k, rfl⟩) | (go_at_call 15; refine (sub_back a b c d _ _ _ (by omega) (by omega) (by omega) (by omega) hv).mono ?_; rintro e w' ⟨rfl, k, rfl⟩) | (go_at_call 20; refine (same_self _ _ _).mono ?_; rintro e w' ⟨rfl, rfl⟩) | (go_at_call 11; refine (live_c _).mono ?_; rintro e w2 ⟨rfl, hl⟩))
    go_ret
    exact ⟨rfl, Below.step (below_drewN (Below.refl _ _) _) hl⟩

theorem back_walk (a b c d : Int) (w : World) :
    Calls Try.prog 4 #[.int .i64 a, .int .i64 b, .int .i64 c, .int .i64 d] w fun e w' => e = .returned (.bool true) ∧ Below w.heap.size w w' := by
  by_cases h1 : a < -9007199254740992 ∨ b < -9007199254740992 ∨ 9007199254740992 < a ∨ 9007199254740992 < b
  · exact back_out a b c d w h1
  · by_cases h2 : c < -9007199254740992 ∨ d < -9007199254740992 ∨ 9007199254740992 < c ∨ 9007199254740992 < d
    · exact back_mid a b c d w (by omega) (by omega) (by omega) (by omega) h2
    · by_cases h3 : 4503599627370496 < a ∨ 4503599627370496 < b ∨ 4503599627370496 < c ∨ 4503599627370496 < d ∨ a < -4503599627370496 ∨ b < -4503599627370496 ∨ c < -4503599627370496 ∨ d < -4503599627370496
      · exact back_big a b c d w (by omega) (by omega) (by omega) (by omega) (by omega) (by omega) (by omega) (by omega) h3
      · exact back_small a b c d w (by omega) (by omega) (by omega) (by omega) (by omega) (by omega) (by omega) (by omega) (by omega) (by omega) (by omega) (by omega) (by omega) (by omega) (by omega) (by omega)
end Go.Proofs.Ythadgapgnlghfaa
