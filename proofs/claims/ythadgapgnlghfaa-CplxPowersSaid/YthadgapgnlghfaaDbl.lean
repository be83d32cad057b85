/- Plain laws on IEEE 754 doubles: sums and products may be taken in the other order; whole numbers up to 2^53 are exact. -/
import Derived.Laws.FloatBits
namespace Go.Proofs.Ythadgapgnlghfaa.Dbl
open Ieee

abbrev D : Format := Ieee.double

theorem sum_comm (a b : Datum) : a.sum b = b.sum a := by
  cases a <;> cases b <;> simp only [Datum.sum]
  case number.number s m i t n j =>
    rw [Int.min_comm i j, Int.add_comm, Bool.and_comm]
  case infinity.infinity s t => 
    by_cases h : s = t
    · subst h; rfl
    · rw [if_neg h, if_neg (fun e => h e.symm)]

theorem product_comm (a b : Datum) : a.product b = b.product a := by
  cases a <;> cases b <;> simp only [Datum.product]
  case number.number s m i t n j =>
    rw [Bool.xor_comm, Nat.mul_comm, Int.add_comm]
  case infinity.infinity s t => rw [Bool.xor_comm]

theorem add_comm (x y : Nat) : D.add x y = D.add y x := by unfold Format.add; rw [sum_comm]
theorem mul_comm (x y : Nat) : D.mul x y = D.mul y x := by unfold Format.mul; rw [product_comm]

/-- no number? -/
def isN (x : Nat) : Bool := (D.read x).isNaN

theorem sum_nan_left {a : Datum} (h : a.isNaN = true) (b : Datum) : a.sum b = none := by
  cases a <;> simp_all [Datum.isNaN, Datum.sum]
theorem sum_nan_right {b : Datum} (h : b.isNaN = true) (a : Datum) : a.sum b = none := by rw [sum_comm, sum_nan_left h]
theorem product_nan_left {a : Datum} (h : a.isNaN = true) (b : Datum) : a.product b = none := by
  cases a <;> simp_all [Datum.isNaN, Datum.product]
theorem product_nan_right {b : Datum} (h : b.isNaN = true) (a : Datum) : a.product b = none := by rw [product_comm, product_nan_left h]
theorem opposite_isNaN (a : Datum) : a.opposite.isNaN = a.isNaN := by cases a <;> rfl
theorem quotient_nan_left {a : Datum} (h : a.isNaN = true) (b : Datum) (d : Nat) : a.quotient d b = none := by
  cases a <;> simp_all [Datum.isNaN, Datum.quotient]
theorem quotient_nan_right {b : Datum} (h : b.isNaN = true) (a : Datum) (d : Nat) : a.quotient d b = none := by
  cases b <;> simp_all [Datum.isNaN]
  cases a <;> rfl
theorem order_nan_left {a : Datum} (h : a.isNaN = true) (b : Datum) : a.order b = none := by
  cases a <;> simp_all [Datum.isNaN, Datum.order]
theorem order_nan_right {b : Datum} (h : b.isNaN = true) (a : Datum) : a.order b = none := by
  cases b <;> simp_all [Datum.isNaN]
  cases a <;> rfl

theorem order_self (x : Nat) : D.order x x = if isN x then none else some .eq := by
  unfold Format.order isN
  generalize D.read x = d
  cases d with
  | number s m e => simp [Datum.order, Datum.isNaN]
  | infinity s => simp [Datum.order, Datum.isNaN]
  | nan s t => simp [Datum.order, Datum.isNaN]

/-! ### whole numbers -/

theorem signed_eq (s : Bool) (m u : Nat) : signed s m u = (if s then -(m * 2 ^ u : Int) else (m * 2 ^ u : Int)) := by
  unfold signed
  rw [Nat.shiftLeft_eq]
  cases s <;> simp

theorem signed_add (s : Bool) (m u j : Nat) : signed s m (u + j) = signed s m u * 2 ^ j := by
  rw [signed_eq, signed_eq, Int.pow_add]
  cases s <;> simp [Int.mul_assoc, Int.neg_mul]

theorem pow_pos (k : Nat) : (0 : Int) < 2 ^ k := Int.pow_pos (by decide)

/-- 'd' stands for the whole number n. -/
def Val (d : Datum) (n : Int) : Prop := ∃ s m e, d = .number s m e ∧ ∃ k : Nat, 0 ≤ e + k ∧ signed s m (e + k).toNat = n * 2 ^ k

theorem val_more {s : Bool} {m : Nat} {e n : Int} {k K : Nat} (h0 : 0 ≤ e + k) (h : signed s m (e + k).toNat = n * 2 ^ k) (hK : k ≤ K) :
    signed s m (e + K).toNat = n * 2 ^ K := by
  obtain ⟨j, rfl⟩ : ∃ j, K = k + j := ⟨K - k, by omega⟩
  have e1 : (e + ((k + j : Nat) : Int)).toNat = (e + k).toNat + j := by omega
  rw [e1, signed_add, h, Int.pow_add, Int.mul_assoc]

theorem cmp_scale (x y c : Int) (hc : 0 < c) : compare (x * c) (y * c) = compare x y := by
  have lt : x * c < y * c ↔ x < y := Int.mul_lt_mul_right hc
  have eq : x * c = y * c ↔ x = y := ⟨fun h => Int.eq_of_mul_eq_mul_right (by omega) h, fun h => by rw [h]⟩
  simp only [compare, compareOfLessAndEq, lt, eq]

theorem val_order {d d' : Datum} {a b : Int} (h : Val d a) (h' : Val d' b) : d.order d' = some (compare a b) := by
  obtain ⟨s, m, i, rfl, k, hk, hv⟩ := h
  obtain ⟨t, n, j, rfl, l, hl, hw⟩ := h'
  simp only [Datum.order]
  congr 1
  have hv' := val_more (K := k + l + (min i j).natAbs) hk hv (by omega)
  have hw' := val_more (K := k + l + (min i j).natAbs) hl hw (by omega)
  generalize hK : k + l + (min i j).natAbs = K at hv' hw'
  have e1 : (i + (K : Int)).toNat = (i - min i j).toNat + (min i j + K).toNat := by omega
  have e2 : (j + (K : Int)).toNat = (j - min i j).toNat + (min i j + K).toNat := by omega
  rw [e1, signed_add] at hv'
  rw [e2, signed_add] at hw'
  rw [← cmp_scale _ _ _ (pow_pos (min i j + K).toNat), hv', hw', cmp_scale _ _ _ (pow_pos K)]

theorem signed_natAbs (t : Int) (c : Bool) (u : Nat) : signed (if t = 0 then c else decide (t < 0)) t.natAbs u = t * 2 ^ u := by
  rw [signed_eq]
  by_cases h0 : t = 0
  · subst h0; simp
  · rw [if_neg h0]
    by_cases h : t < 0
    · rw [if_pos (by simpa using h), ← Int.neg_mul]
      congr 1; omega
    · rw [if_neg (by simpa using h)]
      congr 1; omega

theorem val_sum {d d' : Datum} {a b : Int} (h : Val d a) (h' : Val d' b) : ∃ r, d.sum d' = some r ∧ Val r (a + b) := by
  obtain ⟨s, m, i, rfl, k, hk, hv⟩ := h
  obtain ⟨t, n, j, rfl, l, hl, hw⟩ := h'
  refine ⟨_, rfl, _, _, _, rfl, k + l + (min i j).natAbs, by omega, ?_⟩
  have hv' := val_more (K := k + l + (min i j).natAbs) hk hv (by omega)
  have hw' := val_more (K := k + l + (min i j).natAbs) hl hw (by omega)
  generalize hK : k + l + (min i j).natAbs = K at hv' hw' ⊢
  have e1 : (i + (K : Int)).toNat = (i - min i j).toNat + (min i j + K).toNat := by omega
  have e2 : (j + (K : Int)).toNat = (j - min i j).toNat + (min i j + K).toNat := by omega
  rw [e1, signed_add] at hv'
  rw [e2, signed_add] at hw'
  rw [signed_natAbs, Int.add_mul, hv', hw', Int.add_mul]

theorem val_opposite {d : Datum} {a : Int} (h : Val d a) : Val d.opposite (-a) := by
  obtain ⟨s, m, i, rfl, k, hk, hv⟩ := h
  refine ⟨_, _, _, rfl, k, hk, ?_⟩
  rw [signed_eq] at hv ⊢
  rw [Int.neg_mul, ← hv]
  cases s <;> simp

theorem val_product {d d' : Datum} {a b : Int} (h : Val d a) (h' : Val d' b) : ∃ r, d.product d' = some r ∧ Val r (a * b) := by
  obtain ⟨s, m, i, rfl, k, hk, hv⟩ := h
  obtain ⟨t, n, j, rfl, l, hl, hw⟩ := h'
  refine ⟨_, rfl, _, _, _, rfl, k + l, by omega, ?_⟩
  have e1 : (i + j + ((k + l : Nat) : Int)).toNat = (i + k).toNat + (j + l).toNat := by omega
  have e2 : a * b * 2 ^ (k + l) = (a * 2 ^ k) * (b * 2 ^ l) := by
    rw [Int.pow_add, Int.mul_assoc, Int.mul_assoc, Int.mul_left_comm b, ← Int.mul_assoc]
  rw [e1, e2, ← hv, ← hw, signed_eq, signed_eq, signed_eq, Int.pow_add, Int.natCast_mul]
  have e3 : ((m : Int) * n) * (2 ^ (i + k).toNat * 2 ^ (j + l).toNat) = (m * 2 ^ (i + k).toNat) * (n * 2 ^ (j + l).toNat) := by
    simp only [Int.mul_assoc]; congr 1; rw [← Int.mul_assoc, Int.mul_comm (n : Int), Int.mul_assoc]
  rw [e3]
  cases s <;> cases t <;> simp [Int.neg_mul, Int.mul_neg]

theorem log2_scale {n : Nat} (h : n ≠ 0) (d : Nat) : (n * 2 ^ d).log2 = n.log2 + d := by
  have hp := Nat.two_pow_pos d
  refine (Nat.log2_eq_iff (Nat.mul_ne_zero h (by omega))).2 ?_
  obtain ⟨a, b⟩ := (Nat.log2_eq_iff h).1 rfl
  constructor
  · rw [Nat.pow_add]; exact Nat.mul_le_mul_right _ a
  · rw [show n.log2 + d + 1 = (n.log2 + 1) + d by omega, Nat.pow_add]; exact Nat.mul_lt_mul_of_pos_right b hp

theorem cut_exact (way : Toward) (hw : way = .even ∨ way = .zero) (neg : Bool) (Q d : Nat) : way.cut neg (Q * 2 ^ d) d = Q := by
  unfold Toward.cut
  by_cases h : Q = 0
  · subst h
    have : 0 < 1 <<< min d ((0 * 2 ^ d).log2 + 2) := by rw [Nat.one_shiftLeft]; exact Nat.two_pow_pos _
    rcases hw with rfl | rfl <;> simp
  · have e : min d ((Q * 2 ^ d).log2 + 2) = d := by rw [log2_scale h]; omega
    have hp := Nat.two_pow_pos d
    rw [e, Nat.one_shiftLeft]
    simp only [Nat.mul_div_cancel _ hp, Nat.mul_mod_left]
    rcases hw with rfl | rfl
    · have h1 : (2 ^ d == 0) = false := by rw [beq_eq_false_iff_ne]; omega
      simp [h1]
    · simp

theorem pow_cancel {x y u v c : Nat} (h : x * 2 ^ (u + c) = y * 2 ^ (v + c)) : x * 2 ^ u = y * 2 ^ v := by
  rw [Nat.pow_add, Nat.pow_add, ← Nat.mul_assoc, ← Nat.mul_assoc] at h
  exact Nat.eq_of_mul_eq_mul_right (Nat.two_pow_pos c) h

theorem log2_of {mag u Q v : Nat} (hQ : 2 ^ 52 ≤ Q) (hQ' : Q < 2 ^ 53) (hm : mag ≠ 0) (h : mag * 2 ^ u = Q * 2 ^ v) : mag.log2 + u = 52 + v := by
  have hq : Q.log2 = 52 := (Nat.log2_eq_iff (by omega)).2 ⟨hQ, hQ'⟩
  have := log2_scale hm u
  rw [h, log2_scale (by omega), hq] at this
  omega

theorem nearest_exact (neg : Bool) (mag : Nat) (place last : Int) (Q k : Nat) (hQ : 2 ^ 52 ≤ Q) (hQ' : Q < 2 ^ 53) (hl : -1074 ≤ last)
    (hk : 0 ≤ place + k) (hk' : 0 ≤ last + k) (h : mag * 2 ^ (place + k).toNat = Q * 2 ^ (last + k).toNat) :
    D.nearest neg mag place = D.word neg (min ((last + 1074).toNat * 2 ^ 52 + Q) D.infRung) := by
  have hm : mag ≠ 0 := by
    intro e; subst e
    have hq : 0 < Q * 2 ^ (last + k).toNat := Nat.mul_pos (by omega) (Nat.two_pow_pos _)
    omega
  have hlog := log2_of hQ hQ' hm h
  have hlp : D.leastPlace = -1074 := by decide
  have hfb : (D.fractionBits : Int) = 52 := by decide
  have hbn : D.binade = 2 ^ 52 := by decide
  have hlast : max (place + (mag.log2 : Int) - D.fractionBits) D.leastPlace = last := by rw [hlp, hfb]; omega
  unfold Format.nearest
  rw [if_neg hm]
  dsimp only
  rw [hlast, hlp, hbn]
  have hcut : Toward.even.cut neg (mag <<< (place - last).toNat) (last - place).toNat = Q := by
    rw [Nat.shiftLeft_eq]
    by_cases hp : last ≤ place
    · have e1 : (place + (k : Int)).toNat = (place - last).toNat + (last + k).toNat := by omega
      have e2 : (last + (k : Int)).toNat = 0 + (last + k).toNat := by omega
      rw [e1] at h
      rw [e2] at h
      have e3 : mag * 2 ^ (place - last).toNat = Q * 2 ^ 0 := by
        refine pow_cancel (c := (last + (k : Int)).toNat) ?_
        rw [← e2] at h ⊢
        simpa using h
      have e4 : (last - place).toNat = 0 := by omega
      rw [e3, e4]
      exact cut_exact _ (Or.inl rfl) _ _ _
    · have e4 : (place - last).toNat = 0 := by omega
      have e1 : (last + (k : Int)).toNat = (last - place).toNat + (place + k).toNat := by omega
      have e3 : mag * 2 ^ 0 = Q * 2 ^ (last - place).toNat := by
        refine pow_cancel (c := (place + (k : Int)).toNat) ?_
        rw [← e1]
        simpa using h
      rw [e4, e3]
      exact cut_exact _ (Or.inl rfl) _ _ _
  rw [hcut]
  congr 2

theorem read_word (neg : Bool) (Q : Nat) (last : Int) (hQ : 2 ^ 52 ≤ Q) (hQ' : Q < 2 ^ 53) (hl : -1074 ≤ last) (hl' : last ≤ 900) :
    D.read (D.word neg ((last + 1074).toNat * 2 ^ 52 + Q)) = .number neg Q last := by
  have hlp : D.leastPlace = -1074 := by decide
  have hbn : D.binade = 2 ^ 52 := by decide
  have hsw : D.signWeight = 2 ^ 63 := by decide
  have hir : D.infRung = 2047 * 2 ^ 52 := by decide
  obtain ⟨t, ht⟩ : ∃ t : Nat, last + 1074 = t := ⟨(last + 1074).toNat, by omega⟩
  rw [ht, Int.toNat_natCast]
  have ht' : t ≤ 1974 := by omega
  have hr : t * 2 ^ 52 + Q < 2047 * 2 ^ 52 := by omega
  unfold Format.read Format.word
  rw [hsw, hbn, hir, hlp]
  have hword : (if neg then 2 ^ 63 + (t * 2 ^ 52 + Q) else t * 2 ^ 52 + Q) / 2 ^ 63 % 2 = if neg then 1 else 0 := by
    cases neg <;> simp <;> omega
  have hmod : (if neg then 2 ^ 63 + (t * 2 ^ 52 + Q) else t * 2 ^ 52 + Q) % 2 ^ 63 = t * 2 ^ 52 + Q := by
    cases neg <;> simp <;> omega
  simp only [hword, hmod]
  rw [if_neg (by omega), if_pos hr]
  have h1 : (t * 2 ^ 52 + Q) % 2 ^ 52 = Q - 2 ^ 52 := by omega
  have h2 : (t * 2 ^ 52 + Q) / 2 ^ 52 = t + 1 := by omega
  rw [h1, h2]
  have h3 : 2 ^ 52 + (Q - 2 ^ 52) = Q := by omega
  have h4 : ((-1074 : Int) + ((t + 1 - 1 : Nat) : Int)) = last := by omega
  rw [h3, h4]
  cases neg <;> rfl

/-- The word of a whole number. -/
def iword (n : Int) : Nat := D.nearest (n < 0) n.natAbs 0
/-- 'x' is the word of n; of 0 either nought. -/
def V (x : Nat) (n : Int) : Prop := (n ≠ 0 → x = iword n) ∧ (n = 0 → x = 0 ∨ x = 2 ^ 63)

theorem canon {N : Nat} (h0 : N ≠ 0) (h : N ≤ 2 ^ 53) : ∃ (Q : Nat) (last : Int), 2 ^ 52 ≤ Q ∧ Q < 2 ^ 53 ∧ -52 ≤ last ∧ last ≤ 1 ∧ N * 2 ^ 52 = Q * 2 ^ (last + 52).toNat := by
  obtain ⟨a, b⟩ := (Nat.log2_eq_iff h0).1 (rfl : N.log2 = N.log2)
  have hL : N.log2 ≤ 53 := by
    have := (Nat.pow_le_pow_iff_right (a := 2) (by decide)).1 (Nat.le_trans a h)
    exact this
  by_cases e : N.log2 = 53
  · rw [e] at a
    have : N = 2 ^ 53 := by omega
    subst this
    exact ⟨2 ^ 52, 1, by decide, by decide, by decide, by decide, by decide⟩
  · refine ⟨N * 2 ^ (52 - N.log2), (N.log2 : Int) - 52, ?_, ?_, by omega, by omega, ?_⟩
    · have : (2 : Nat) ^ 52 = 2 ^ N.log2 * 2 ^ (52 - N.log2) := by rw [← Nat.pow_add]; congr 1; omega
      rw [this]; exact Nat.mul_le_mul_right _ a
    · have : (2 : Nat) ^ 53 = 2 ^ (N.log2 + 1) * 2 ^ (52 - N.log2) := by rw [← Nat.pow_add]; congr 1; omega
      rw [this]; exact Nat.mul_lt_mul_of_pos_right b (Nat.two_pow_pos _)
    · have : ((N.log2 : Int) - 52 + 52).toNat = N.log2 := by omega
      rw [this, Nat.mul_assoc, ← Nat.pow_add]; congr 2; omega

theorem rung_lt {Q : Nat} {last : Int} (hQ' : Q < 2 ^ 53) (hl : -1074 ≤ last) (hl' : last ≤ 900) : (last + 1074).toNat * 2 ^ 52 + Q < D.infRung := by
  have hir : D.infRung = 2047 * 2 ^ 52 := by decide
  obtain ⟨t, ht⟩ : ∃ t : Nat, last + 1074 = t := ⟨(last + 1074).toNat, by omega⟩
  rw [ht, Int.toNat_natCast, hir]
  have ht' : t ≤ 1974 := by omega
  omega

/-- The word of a number that is whole and up to 2^53. -/
theorem iword_word {n : Int} (h0 : n ≠ 0) (h : n.natAbs ≤ 2 ^ 53) : ∃ (Q : Nat) (last : Int), 2 ^ 52 ≤ Q ∧ Q < 2 ^ 53 ∧ -52 ≤ last ∧ last ≤ 1 ∧
    n.natAbs * 2 ^ 52 = Q * 2 ^ (last + 52).toNat ∧ iword n = D.word (n < 0) ((last + 1074).toNat * 2 ^ 52 + Q) := by
  obtain ⟨Q, last, a, b, c, d, e⟩ := canon (N := n.natAbs) (by omega) h
  refine ⟨Q, last, a, b, c, d, e, ?_⟩
  unfold iword
  rw [nearest_exact _ _ 0 last Q 52 a b (by omega) (by omega) (by omega) (by simpa using e)]
  rw [Nat.min_eq_left (Nat.le_of_lt (rung_lt b (by omega) (by omega)))]

theorem write_val {s : Bool} {m : Nat} {e n : Int} (h : Val (.number s m e) n) (hn : n.natAbs ≤ 2 ^ 53) : V (D.write (.number s m e)) n := by
  obtain ⟨s', m', e', he, k, hk, hv⟩ := h
  cases he
  by_cases h0 : n = 0
  · subst h0
    refine ⟨fun x => absurd rfl x, fun _ => ?_⟩
    have hm : m = 0 := by
      rw [signed_eq, Int.zero_mul] at hv
      have hp := pow_pos (e + k).toNat
      rcases Nat.eq_zero_or_pos m with z | z
      · exact z
      · exfalso
        have : (0 : Int) < m * 2 ^ (e + k).toNat := Int.mul_pos (by omega) hp
        cases s <;> simp only [if_true, Bool.false_eq_true, if_false] at hv <;> omega
    subst hm
    show D.nearest s 0 e = 0 ∨ D.nearest s 0 e = 2 ^ 63
    unfold Format.nearest
    rw [if_pos rfl]
    cases s
    · exact Or.inl rfl
    · exact Or.inr (by decide)
  · refine ⟨fun _ => ?_, fun x => absurd x h0⟩
    obtain ⟨Q, last, a, b, c, d, f, g⟩ := iword_word h0 hn
    rw [g]
    show D.nearest s m e = _
    have hp := pow_pos (e + k).toNat
    have hs : s = decide (n < 0) := by
      rw [signed_eq] at hv
      have hk2 := pow_pos k
      by_cases hneg : n < 0
      · have : n * 2 ^ k < 0 := Int.mul_neg_of_neg_of_pos hneg hk2
        have hm0 : (0 : Int) ≤ m * 2 ^ (e + k).toNat := Int.mul_nonneg (by omega) (by omega)
        cases s
        · simp only [Bool.false_eq_true, if_false] at hv; omega
        · simp [hneg]
      · have : 0 < n * 2 ^ k := Int.mul_pos (by omega) hk2
        have hm0 : (0 : Int) ≤ m * 2 ^ (e + k).toNat := Int.mul_nonneg (by omega) (by omega)
        cases s
        · simp [hneg]
        · simp only [if_true] at hv; omega
    have hnat : m * 2 ^ (e + k).toNat = n.natAbs * 2 ^ k := by
      rw [signed_eq] at hv
      have := congrArg Int.natAbs hv
      rw [Int.natAbs_mul] at this
      cases s
      · simpa [Int.natAbs_mul, Int.natAbs_pow] using this
      · simpa [Int.natAbs_mul, Int.natAbs_pow] using this
    have hmul : m * 2 ^ (e + (k + 52 : Nat)).toNat = Q * 2 ^ (last + (k + 52 : Nat)).toNat := by
      have e1 : (e + ((k + 52 : Nat) : Int)).toNat = (e + k).toNat + 52 := by omega
      have e2 : (last + ((k + 52 : Nat) : Int)).toNat = (last + 52).toNat + k := by omega
      rw [e1, e2, Nat.pow_add, ← Nat.mul_assoc, hnat, Nat.pow_add, ← Nat.mul_assoc, ← f]
      rw [Nat.mul_assoc, Nat.mul_comm (2 ^ k), Nat.mul_assoc]
    rw [nearest_exact s m e last Q (k + 52) a b (by omega) (by omega) (by omega) hmul]
    rw [Nat.min_eq_left (Nat.le_of_lt (rung_lt b (by omega) (by omega))), hs]

theorem read_V {x : Nat} {n : Int} (h : V x n) (hn : n.natAbs ≤ 2 ^ 53) : Val (D.read x) n := by
  by_cases h0 : n = 0
  · subst h0
    rcases h.2 rfl with rfl | rfl
    · have : D.read 0 = .number false 0 (-1074) := by decide
      rw [this]
      exact ⟨_, _, _, rfl, 1074, by decide, by rw [signed_eq, Int.zero_mul]; simp⟩
    · have : D.read (2 ^ 63) = .number true 0 (-1074) := by decide
      rw [this]
      exact ⟨_, _, _, rfl, 1074, by decide, by rw [signed_eq, Int.zero_mul]; simp⟩
  · obtain ⟨Q, last, a, b, c, d, f, g⟩ := iword_word h0 hn
    rw [h.1 h0, g, read_word _ Q last a b (by omega) (by omega)]
    refine ⟨_, _, _, rfl, 52, by omega, ?_⟩
    rw [signed_eq]
    have hc : (n.natAbs : Int) * 2 ^ 52 = (Q : Int) * 2 ^ (last + 52).toNat := by exact_mod_cast f
    have e1 : (last + ((52 : Nat) : Int)).toNat = (last + 52).toNat := rfl
    rw [e1, ← hc]
    by_cases hneg : n < 0
    · rw [if_pos (by simpa using hneg), ← Int.neg_mul]; congr 1; omega
    · rw [if_neg (by simpa using hneg)]; congr 1; omega

theorem V_iword (n : Int) : V (iword n) n := by
  refine ⟨fun _ => rfl, fun h => ?_⟩
  subst h
  exact Or.inl (by decide)

theorem V_add {x y : Nat} {a b : Int} (hx : V x a) (hy : V y b) (ha : a.natAbs ≤ 2 ^ 53) (hb : b.natAbs ≤ 2 ^ 53) (hab : (a + b).natAbs ≤ 2 ^ 53) : ∃ r, D.add x y = some r ∧ V r (a + b) := by
  obtain ⟨d, hd, hv⟩ := val_sum (read_V hx ha) (read_V hy hb)
  obtain ⟨s, m, e, rfl, r⟩ := hv
  exact ⟨_, by unfold Format.add; rw [hd]; rfl, write_val ⟨s, m, e, rfl, r⟩ hab⟩

theorem V_sub {x y : Nat} {a b : Int} (hx : V x a) (hy : V y b) (ha : a.natAbs ≤ 2 ^ 53) (hb : b.natAbs ≤ 2 ^ 53) (hab : (a - b).natAbs ≤ 2 ^ 53) : ∃ r, D.sub x y = some r ∧ V r (a - b) := by
  obtain ⟨d, hd, hv⟩ := val_sum (read_V hx ha) (val_opposite (read_V hy hb))
  obtain ⟨s, m, e, rfl, r⟩ := hv
  exact ⟨_, by unfold Format.sub; rw [hd]; rfl, write_val ⟨s, m, e, rfl, r⟩ hab⟩

theorem V_mul {x y : Nat} {a b : Int} (hx : V x a) (hy : V y b) (ha : a.natAbs ≤ 2 ^ 53) (hb : b.natAbs ≤ 2 ^ 53) (hab : (a * b).natAbs ≤ 2 ^ 53) : ∃ r, D.mul x y = some r ∧ V r (a * b) := by
  obtain ⟨d, hd, hv⟩ := val_product (read_V hx ha) (read_V hy hb)
  obtain ⟨s, m, e, rfl, r⟩ := hv
  exact ⟨_, by unfold Format.mul; rw [hd]; rfl, write_val ⟨s, m, e, rfl, r⟩ hab⟩

theorem V_unique {x y : Nat} {a : Int} (hx : V x a) (hy : V y a) (h : a ≠ 0) : x = y := by rw [hx.1 h, hy.1 h]

theorem V_not_nan {x : Nat} {n : Int} (h : V x n) (hn : n.natAbs ≤ 2 ^ 53) : isN x = false := by
  obtain ⟨s, m, e, h, _⟩ := read_V h hn
  unfold isN; rw [h]; rfl

/-- towards zero, a whole number is itself. -/
theorem val_toInt {d : Datum} {n : Int} (h : Val d n) : d.toInt .zero = some n := by
  obtain ⟨s, m, e, rfl, k, hk, hv⟩ := h
  unfold Datum.toInt Datum.integral
  dsimp only
  congr 1
  have hnat : m * 2 ^ (e + k).toNat = n.natAbs * 2 ^ k := by
    rw [signed_eq] at hv
    have := congrArg Int.natAbs hv
    rw [Int.natAbs_mul] at this
    cases s
    · simpa [Int.natAbs_mul, Int.natAbs_pow] using this
    · simpa [Int.natAbs_mul, Int.natAbs_pow] using this
  have hcut : Toward.zero.cut s (m <<< e.toNat) (-e).toNat = n.natAbs := by
    rw [Nat.shiftLeft_eq]
    by_cases he : 0 ≤ e
    · have e1 : (e + (k : Int)).toNat = e.toNat + k := by omega
      have e2 : (-e).toNat = 0 := by omega
      rw [e1] at hnat
      have : m * 2 ^ e.toNat = n.natAbs * 2 ^ 0 := pow_cancel (c := k) (by simpa using hnat)
      rw [e2, this]
      exact cut_exact _ (Or.inr rfl) _ _ _
    · have e1 : e.toNat = 0 := by omega
      have e2 : k = (-e).toNat + (e + k).toNat := by omega
      have : m * 2 ^ 0 = n.natAbs * 2 ^ (-e).toNat := pow_cancel (c := (e + k).toNat) (by rw [← e2]; simpa using hnat)
      rw [e1, this]
      exact cut_exact _ (Or.inr rfl) _ _ _
  rw [hcut, signed_eq]
  rw [signed_eq] at hv
  have hk2 := pow_pos k
  have hm0 : (0 : Int) ≤ m * 2 ^ (e + k).toNat := Int.mul_nonneg (by omega) (Int.le_of_lt (pow_pos _))
  cases s
  · simp only [Bool.false_eq_true, if_false] at hv ⊢
    have : 0 ≤ n := by
      by_cases l : n < 0
      · have := Int.mul_neg_of_neg_of_pos l hk2; omega
      · omega
    simp; omega
  · simp only [if_true] at hv ⊢
    have : n ≤ 0 := by
      by_cases l : 0 < n
      · have := Int.mul_pos l hk2; omega
      · omega
    simp; omega

/-! ### what lies between -2^61 and 2^61 can be made a whole number -/

theorem cut_zero_le (s : Bool) (n d B : Nat) (h : n ≤ B * 2 ^ d) : Toward.zero.cut s n d ≤ B := by
  unfold Toward.cut
  simp only [Bool.toNat_false, Nat.add_zero, Nat.one_shiftLeft]
  by_cases c : d ≤ n.log2 + 2
  · rw [Nat.min_eq_left c]
    exact Nat.div_le_of_le_mul (by rw [Nat.mul_comm]; exact h)
  · rw [Nat.min_eq_right (by omega)]
    have : n < 2 ^ (n.log2 + 2) := by
      have := Nat.lt_log2_self (n := n)
      rw [Nat.pow_succ]; omega
    rw [Nat.div_eq_of_lt this]
    omega

theorem cmp_lt {a b : Int} (h : compare a b = .lt) : a < b := by
  simp only [compare, compareOfLessAndEq] at h
  split at h
  · assumption
  · split at h <;> cases h
theorem cmp_ge {a b : Int} (h : compare a b = .gt ∨ compare a b = .eq) : b ≤ a := by
  simp only [compare, compareOfLessAndEq] at h
  split at h
  · rcases h with h | h <;> cases h
  · omega

theorem pow61 : (2 : Nat) ^ 61 = 2305843009213693952 := by decide

theorem mag_bound {m : Nat} {e : Int} (key : m * 2 ^ (e - min e 9).toNat ≤ 2 ^ 52 * 2 ^ (9 - min e 9).toNat) : m <<< e.toNat ≤ 2305843009213693952 * 2 ^ (-e).toNat := by
  rw [Nat.shiftLeft_eq, ← pow61]
  generalize hA : (e - min e 9).toNat = A at key
  generalize hB : (9 - min e 9).toNat = B at key
  generalize hC : e.toNat = C
  generalize hE : (-e).toNat = E
  rw [← Nat.pow_add] at key ⊢
  by_cases he : 0 ≤ e
  · have e2 : E = 0 := by omega
    subst e2
    by_cases h9 : 9 ≤ e
    · have hC2 : C = A + 9 := by omega
      have hB2 : B = 0 := by omega
      subst hC2 hB2
      rw [Nat.pow_add, ← Nat.mul_assoc]
      have := Nat.mul_le_mul_right (2 ^ 9) key
      rw [← Nat.pow_add] at this
      exact this
    · have hA2 : A = 0 := by omega
      have hC2 : 52 + B + C = 61 := by omega
      subst hA2
      have := Nat.mul_le_mul_right (2 ^ C) key
      rw [← Nat.pow_add, hC2, Nat.pow_zero, Nat.mul_one] at this
      exact this
  · have hA2 : A = 0 := by omega
    have hC2 : C = 0 := by omega
    have hB2 : 52 + B = 61 + E := by omega
    subst hA2 hC2
    rw [hB2] at key
    exact key

theorem range_toInt {d : Datum} (h1 : d.order (.number false (2 ^ 52) 9) = some .lt) (h2 : d.order (.number true (2 ^ 52) 9) = some .gt ∨ d.order (.number true (2 ^ 52) 9) = some .eq) :
    ∃ n, d.toInt .zero = some n ∧ -2305843009213693952 ≤ n ∧ n ≤ 2305843009213693952 := by
  cases d with
  | nan s t => simp [Datum.order] at h1
  | infinity s => cases s <;> simp [Datum.order] at h1 h2
  | number s m e =>
    simp only [Datum.order, Option.some.injEq] at h1 h2
    have g1 := cmp_lt h1
    have g2 := cmp_ge h2
    rw [signed_eq, signed_eq] at g1 g2
    simp only [Bool.false_eq_true, if_false, if_true] at g1 g2
    have hm0 : (0 : Int) ≤ m * 2 ^ (e - min e 9).toNat := Int.mul_nonneg (by omega) (Int.le_of_lt (pow_pos _))
    have hp := pow_pos (9 - min e 9).toNat
    have key' : (m : Int) * 2 ^ (e - min e 9).toNat ≤ ((2 ^ 52 : Nat) : Int) * 2 ^ (9 - min e 9).toNat := by
      cases s
      · simp only [Bool.false_eq_true, if_false] at g1; omega
      · simp only [if_true] at g2; omega
    have key : m * 2 ^ (e - min e 9).toNat ≤ 2 ^ 52 * 2 ^ (9 - min e 9).toNat := by exact_mod_cast key'
    clear g1 g2 h1 h2 hm0 hp key'
    have hM : Toward.zero.cut s (m <<< e.toNat) (-e).toNat ≤ 2305843009213693952 := cut_zero_le _ _ _ _ (mag_bound key)
    refine ⟨_, rfl, ?_⟩
    generalize Toward.zero.cut s (m <<< e.toNat) (-e).toNat = M at hM
    rw [signed_eq]
    cases s
    · simp; omega
    · simp; omega

/-! ### signs -/

/-- a float that has no sign. -/
def noSign (x : Nat) : Prop := x < 2 ^ 63
theorem read_neg {x : Nat} (h : noSign x) : (D.read x).neg = false := by
  unfold Format.read
  have hsw : D.signWeight = 2 ^ 63 := by decide
  rw [hsw]
  have : x / 2 ^ 63 = 0 := Nat.div_eq_of_lt h
  dsimp only
  rw [this]
  split
  · rfl
  · split
    · rfl
    · split <;> rfl

theorem word_false (r : Nat) : D.word false r = r := rfl
theorem infRung_val : D.infRung = 9218868437227405312 := by decide
theorem noSign_of {x : Nat} (h : x ≤ 9223372036854775807) : noSign x := by unfold noSign; omega
theorem min_infRung (k : Nat) : min k D.infRung ≤ 9223372036854775807 := by rw [infRung_val]; omega

theorem write_noSign {d : Datum} (h : d.neg = false) : noSign (D.write d) := by
  apply noSign_of
  cases d with
  | number s m e =>
    have hs : s = false := h
    subst hs
    unfold Format.write Format.nearest
    dsimp only
    split
    · rw [word_false]; omega
    · rw [word_false]; exact min_infRung _
  | infinity s =>
    have hs : s = false := h
    subst hs
    unfold Format.write
    dsimp only
    rw [word_false, infRung_val]; omega
  | nan s t =>
    have hs : s = false := h
    subst hs
    unfold Format.write
    dsimp only
    have hb : D.binade = 4503599627370496 := by decide
    rw [word_false, infRung_val, hb]
    omega

theorem square_noSign (x r : Nat) (h : D.mul x x = some r) : noSign r := by
  unfold Format.mul at h
  cases hd : (D.read x).product (D.read x) with
  | none => rw [hd] at h; cases h
  | some d =>
    rw [hd] at h
    simp only [Option.map_some, Option.some.injEq] at h
    subst h
    apply write_noSign
    cases e : D.read x with
    | number s m i => rw [e] at hd; simp only [Datum.product, Option.some.injEq] at hd; subst hd; simp [Datum.neg]
    | infinity s => rw [e] at hd; simp only [Datum.product, Option.some.injEq] at hd; subst hd; simp [Datum.neg]
    | nan s t => rw [e] at hd; cases hd

theorem sum_noSign {x y r : Nat} (hx : noSign x) (hy : noSign y) (h : D.add x y = some r) : noSign r := by
  unfold Format.add at h
  cases hd : (D.read x).sum (D.read y) with
  | none => rw [hd] at h; cases h
  | some d =>
    rw [hd] at h
    simp only [Option.map_some, Option.some.injEq] at h
    subst h
    apply write_noSign
    have nx := read_neg hx
    have ny := read_neg hy
    cases e : D.read x with
    | nan s t => rw [e] at hd; cases hd
    | infinity s =>
      rw [e] at nx hd
      cases nx
      cases f : D.read y with
      | nan s t => rw [f] at hd; cases hd
      | infinity s => rw [f] at hd ny; cases ny; simp only [Datum.sum, if_true, Option.some.injEq] at hd; subst hd; rfl
      | number s m i => rw [f] at hd; simp only [Datum.sum, Option.some.injEq] at hd; subst hd; rfl
    | number s m i =>
      rw [e] at nx hd
      cases nx
      cases f : D.read y with
      | nan s t => rw [f] at hd; cases hd
      | infinity s => rw [f] at hd ny; cases ny; simp only [Datum.sum, Option.some.injEq] at hd; subst hd; rfl
      | number t n j =>
        rw [f] at hd ny
        cases ny
        simp only [Datum.sum, Option.some.injEq] at hd
        subst hd
        show (if _ then _ else _) = false
        split
        · rfl
        · rw [signed_eq, signed_eq]
          simp only [Bool.false_eq_true, if_false, decide_eq_false_iff_not]
          have a1 : (0 : Int) ≤ m * 2 ^ (i - min i j).toNat := Int.mul_nonneg (by omega) (Int.le_of_lt (pow_pos _))
          have a2 : (0 : Int) ≤ n * 2 ^ (j - min i j).toNat := Int.mul_nonneg (by omega) (Int.le_of_lt (pow_pos _))
          omega

theorem noSign_not_lt {x : Nat} (h : noSign x) : D.order x 0 ≠ some .lt := by
  have nx := read_neg h
  unfold Format.order
  have r0 : D.read 0 = .number false 0 (-1074) := by decide
  rw [r0]
  cases e : D.read x with
  | nan s t => simp [Datum.order]
  | infinity s => rw [e] at nx; cases nx; simp [Datum.order]
  | number s m i =>
    rw [e] at nx; cases nx
    simp only [Datum.order, ne_eq, Option.some.injEq]
    intro hc
    have := cmp_lt hc
    rw [signed_eq, signed_eq] at this
    simp only [Bool.false_eq_true, if_false] at this
    have a1 : (0 : Int) ≤ m * 2 ^ (i - min i (-1074)).toNat := Int.mul_nonneg (by omega) (Int.le_of_lt (pow_pos _))
    simp at this
    omega

end Go.Proofs.Ythadgapgnlghfaa.Dbl
