/- Whole numbers in floats: what sums, differences, products and negatives of such come to in a walk; their parts. For numbers up to 2^53. -/
import Derived.Test.YthadgapgnlghfaaLive
namespace Go.Proofs.Ythadgapgnlghfaa
open Go Go.RowKit Go.Proofs.Ythadgapgnlghfaa.Dbl

theorem V_FR_add {x y r : Nat} {a b : Int} (h : FR .add x y r) (hx : V x a) (hy : V y b) (ha : a.natAbs ≤ 9007199254740992) (hb : b.natAbs ≤ 9007199254740992) (hab : (a + b).natAbs ≤ 9007199254740992) : V r (a + b) := by
  obtain ⟨v, hv, hV⟩ := V_add hx hy (by simpa using ha) (by simpa using hb) (by simpa using hab)
  obtain rfl := FR_val (v := v) h hv
  exact hV
theorem V_FR_sub {x y r : Nat} {a b : Int} (h : FR .sub x y r) (hx : V x a) (hy : V y b) (ha : a.natAbs ≤ 9007199254740992) (hb : b.natAbs ≤ 9007199254740992) (hab : (a - b).natAbs ≤ 9007199254740992) : V r (a - b) := by
  obtain ⟨v, hv, hV⟩ := V_sub hx hy (by simpa using ha) (by simpa using hb) (by simpa using hab)
  obtain rfl := FR_val (v := v) h hv
  exact hV
theorem V_FR_mul {x y r : Nat} {a b : Int} (h : FR .mul x y r) (hx : V x a) (hy : V y b) (ha : a.natAbs ≤ 9007199254740992) (hb : b.natAbs ≤ 9007199254740992) (hab : (a * b).natAbs ≤ 9007199254740992) : V r (a * b) := by
  obtain ⟨v, hv, hV⟩ := V_mul hx hy (by simpa using ha) (by simpa using hb) (by simpa using hab)
  obtain rfl := FR_val (v := v) h hv
  exact hV

theorem xor_top {r : Nat} (h : r < 2 ^ 63) : r ^^^ 2 ^ 63 = 2 ^ 63 + r := by
  apply Nat.eq_of_testBit_eq
  intro i
  rw [Nat.testBit_xor, Nat.testBit_two_pow]
  by_cases hi : i < 63
  · rw [Nat.testBit_two_pow_add_gt hi, decide_eq_false (show ¬ 63 = i by omega), Bool.xor_false]
  · by_cases he : i = 63
    · subst he
      rw [Nat.testBit_two_pow_add_eq, Nat.testBit_lt_two_pow h]; simp
    · have h1 : r.testBit i = false := Nat.testBit_lt_two_pow (Nat.lt_of_lt_of_le h (Nat.pow_le_pow_right (by decide) (by omega)))
      have h2 : (2 ^ 63 + r).testBit i = false := Nat.testBit_lt_two_pow (Nat.lt_of_lt_of_le (show 2 ^ 63 + r < 2 ^ 64 by omega) (Nat.pow_le_pow_right (by decide) (by omega)))
      rw [h1, h2]; simp; omega
theorem ng_low {r : Nat} (h : r < 2 ^ 63) : ng r = 2 ^ 63 + r := by
  have e : ng r = r ^^^ 2 ^ 63 := rfl
  rw [e, xor_top h]
theorem ng_high {r : Nat} (h : r < 2 ^ 63) : ng (2 ^ 63 + r) = r := by
  have e : ng (2 ^ 63 + r) = (2 ^ 63 + r) ^^^ 2 ^ 63 := rfl
  rw [e, ← xor_top h, Nat.xor_assoc, Nat.xor_self, Nat.xor_zero]

theorem V_ng {x : Nat} {n : Int} (h : V x n) (hn : n.natAbs ≤ 9007199254740992) : V (ng x) (-n) := by
  by_cases h0 : n = 0
  · subst h0
    refine ⟨fun e => absurd rfl e, fun _ => ?_⟩
    rcases h.2 rfl with rfl | rfl
    · right; rw [ng_low (by omega)]
    · left; exact ng_high (r := 0) (by omega)
  · refine ⟨fun _ => ?_, fun e => absurd e (by omega)⟩
    rw [h.1 h0]
    obtain ⟨Q, last, a, b, c, d, f, g⟩ := iword_word h0 (by simpa using hn)
    have hlt := rung_lt (Q := Q) (last := last) b (by omega) (by omega)
    have hir : D.infRung < 2 ^ 63 := by decide
    have hsw : D.signWeight = 2 ^ 63 := by decide
    have g' : iword (-n) = D.word (-n < 0) ((last + 1074).toNat * 2 ^ 52 + Q) := by
      unfold iword
      have hna : (-n).natAbs = n.natAbs := Int.natAbs_neg n
      rw [hna, nearest_exact _ _ 0 last Q 52 a b (by omega) (by omega) (by omega) (by simpa using f)]
      rw [Nat.min_eq_left (Nat.le_of_lt hlt)]
    rw [g, g']
    generalize (last + 1074).toNat * 2 ^ 52 + Q = rr at hlt
    have hr : rr < 2 ^ 63 := Nat.lt_trans hlt hir
    unfold Ieee.Format.word
    rw [hsw]
    by_cases hneg : n < 0
    · have hn2 : ¬ -n < 0 := by omega
      simp only [hneg, hn2, decide_true, decide_false, if_true, Bool.false_eq_true, if_false]
      exact ng_high hr
    · have hn2 : -n < 0 := by omega
      simp only [hneg, hn2, decide_true, decide_false, if_true, Bool.false_eq_true, if_false]
      exact ng_low hr

theorem V_part {x : Nat} {n : Int} (h : V x n) (hn : n.natAbs ≤ 9007199254740992) : pv x = n ∧ pe x = 0 := by
  have hv := read_V h (by simpa using hn)
  have e1 : D.read 14105274032924393472 = .number true (2 ^ 52) 9 := by decide
  have e2 : D.read 4881901996069617664 = .number false (2 ^ 52) 9 := by decide
  have v1 : Val (D.read 14105274032924393472) (-2305843009213693952) := by rw [e1]; exact ⟨_, _, _, rfl, 0, by decide, by decide⟩
  have v2 : Val (D.read 4881901996069617664) 2305843009213693952 := by rw [e2]; exact ⟨_, _, _, rfl, 0, by decide, by decide⟩
  have o1 : FloatKind.f64.format.order x 14105274032924393472 = some (compare n (-2305843009213693952)) := val_order hv v1
  have o2 : FloatKind.f64.format.order x 4881901996069617664 = some (compare n 2305843009213693952) := val_order hv v2
  have c1 : compare n (-2305843009213693952) = .gt := by
    simp only [compare, compareOfLessAndEq]; rw [if_neg (by omega), if_neg (by omega)]
  have c2 : compare n 2305843009213693952 = .lt := by
    simp only [compare, compareOfLessAndEq]; rw [if_pos (by omega)]
  have g1 : geLo x = true := by unfold geLo; rw [o1, c1]; rfl
  have g2 : ltHi x = true := by unfold ltHi; rw [o2, c2]; rfl
  have ht : (FloatKind.f64.decode x).toInt .zero = some n := val_toInt hv
  have hf : floatToIntVal .f64 x .i64 = some n := by
    unfold floatToIntVal
    rw [ht]
    dsimp only
    have m1 : IntKind.i64.min = -9223372036854775808 := by decide
    have m2 : IntKind.i64.max = 9223372036854775807 := by decide
    rw [m1, m2, if_pos (by omega)]
  constructor
  · unfold pv; rw [g1, g2, hf]; rfl
  · unfold pe; rw [g1, g2]; rfl

theorem part_V (a b : Nat) (re im : Int) (w : World) (ha : V a re) (hb : V b im) (h1 : re.natAbs ≤ 9007199254740992) (h2 : im.natAbs ≤ 9007199254740992) :
    Calls Try.prog 13 #[.complex .f64 a b, .int .i64 re, .int .i64 im] w fun e w' => e = .returned (.bool true) ∧ w = w' :=
  part_true a b re im w (V_part ha h1).2 (V_part hb h2).2 (V_part ha h1).1 (V_part hb h2).1
end Go.Proofs.Ythadgapgnlghfaa
