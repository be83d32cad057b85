/- TagRules: sums and products of any numbers may be taken in whatever order, and go through one another. Proved for every input: no condition. -/
import Derived.Test.YtojohijgacnljaaPTagRulesx2
import Derived.KernelRfl
import Derived.KernelRfl
import Derived.KernelRfl
import Derived.KernelRfl
import Derived.KernelRfl
import Derived.Test.YtojohijgacnljaaTagPlain
import Derived.KernelRfl
namespace Go.Proofs.Ytojohijgacnljaa.Pure
open Go.RowKit Go.Proofs.Ytojohijgacnljaa.PTagRules Go.Proofs.Ytojohijgacnljaa.Plain

theorem num_t {v : Int} (h0 : 0 ≤ v) (h1 : v < 18446744073709551616) : tag_Num.f v = some (if v % 4 = 0 then (nv v, true) else (0, false)) := by
  unfold tag_Num.f
  rw [and3 h0 h1]
  by_cases h : v % 4 = 0
  · rw [if_pos h, if_pos h, num_word h0 h1 h]
  · rw [if_neg h, if_neg h]

theorem int_t (n : Int) : tag_Int.f n = some (iw n) := by
  unfold tag_Int.f
  rw [int_word]

theorem two_j2 (k : Nat) (x y : Int) : tag_two.j2 (k + 1) x y = some (iw (x + y), 0) := by
  simp only [tag_two.j2, int_t, Option.bind_some, iw_wrap]

theorem two_j1 (k : Nat) (op x y : Int) (hop : 0 ≤ op ∧ op ≤ 4) (hy : 3 ≤ op → y ≠ 0) : tag_two.j1 (k + 2) op x y = some (iw (opv op x y), 0) := by
  obtain ⟨ha, hb⟩ := hop
  obtain h | h | h | h | h : op = 0 ∨ op = 1 ∨ op = 2 ∨ op = 3 ∨ op = 4 := by omega
  all_goals subst h
  · simp only [tag_two.j1, int_t, Option.bind_some, iw_wrap, two_j2, opv]; simp
  · simp only [tag_two.j1, two_j2, opv]
    simp only [if_true]
    rw [iw_congr (a := x + wrap64 (-y)) (b := x - y) (by unfold wrap64; omega)]
  · simp only [tag_two.j1, int_t, Option.bind_some, iw_wrap, opv]; simp
  · simp only [tag_two.j1, int_t, Option.bind_some, iw_wrap, opv]; rw [if_neg (hy (by omega))]; simp
  · simp only [tag_two.j1, int_t, Option.bind_some, opv]; simp [hy (by omega)]

theorem two_t (k : Nat) (op a b : Int) (hop : 0 ≤ op ∧ op ≤ 4) (a0 : 0 ≤ a) (a1 : a < 18446744073709551616) (b0 : 0 ≤ b) (b1 : b < 18446744073709551616) :
    tag_two.f (k + 3) op a b = some (two op a b) := by
  unfold tag_two.f
  rw [num_t a0 a1, num_t b0 b1]
  by_cases ha : a % 4 = 0
  · by_cases hb : b % 4 = 0
    · simp only [if_pos ha, if_pos hb, Option.bind_some, if_true, Bool.not_true, tag_two.j0, Bool.false_eq_true, if_false]
      by_cases hz : nv b = 0
      · by_cases h3 : 3 ≤ op
        · rw [if_pos hz, if_pos h3, two_zero ha hb hz h3]
        · rw [if_pos hz, if_neg h3, two_some ha hb (fun h => h3 h.2)]
          exact two_j1 k op _ _ hop (fun h => absurd h h3)
      · rw [if_neg hz, two_some ha hb (fun h => hz h.1)]
        exact two_j1 k op _ _ hop (fun _ => hz)
    · rw [two_kind (fun h => hb h.2)]
      simp [ha, hb, tag_two.j0]
  · rw [two_kind (fun h => ha h.1)]
    simp [ha, tag_two.j0]

theorem live_t (k : Nat) : jacquardlaw01_live.f (k + 3) = some true := by
  induction k with
  | zero => kernel_rfl
  | succ k ih => exact jacquardlaw01_live.mono (k + 3) _ ih

theorem kind_t (k : Nat) {v : Int} (h0 : 0 ≤ v) (h1 : v < 18446744073709551616) : tag_Kind.f (k + 1) v = some (kd v) := by
  unfold tag_Kind.f kd
  rw [and3 h0 h1, wrap_of (n := v % 4) (by omega) (by omega)]
  by_cases h : v % 4 = 0
  · rw [if_pos h, if_pos h, h]
  · rw [if_neg h, if_neg h]
    by_cases h' : v % 4 = 1
    · rw [if_pos h', if_pos h', h']
      by_cases h9 : v ≤ 9 <;> simp [tag_Kind.j0, h9]
    · rw [if_neg h', if_neg h']
      simp only [tag_Kind.j0]
      rw [if_neg (by simp), if_pos (by omega)]
      by_cases hm : v / 4 ≤ 2147483647
      · rw [if_pos hm, if_pos hm]
      · rw [if_neg hm, if_neg hm]

theorem add_t (k : Nat) {a b : Int} (a0 : 0 ≤ a) (a1 : a < 18446744073709551616) (b0 : 0 ≤ b) (b1 : b < 18446744073709551616) : tag_Add.f (k + 3) a b = some (two 0 a b) := by
  unfold tag_Add.f
  rw [two_t k 0 a b (by omega) a0 a1 b0 b1]
  rfl

theorem sub_t (k : Nat) {a b : Int} (a0 : 0 ≤ a) (a1 : a < 18446744073709551616) (b0 : 0 ≤ b) (b1 : b < 18446744073709551616) : tag_Sub.f (k + 3) a b = some (two 1 a b) := by
  unfold tag_Sub.f
  rw [two_t k 1 a b (by omega) a0 a1 b0 b1]
  rfl

theorem mul_t (k : Nat) {a b : Int} (a0 : 0 ≤ a) (a1 : a < 18446744073709551616) (b0 : 0 ≤ b) (b1 : b < 18446744073709551616) : tag_Mul.f (k + 3) a b = some (two 2 a b) := by
  unfold tag_Mul.f
  rw [two_t k 2 a b (by omega) a0 a1 b0 b1]
  rfl

theorem neg_t (k : Nat) {a : Int} (a0 : 0 ≤ a) (a1 : a < 18446744073709551616) : tag_Neg.f (k + 3) a = some (two 1 0 a) := by
  unfold tag_Neg.f
  rw [two_t k 1 0 a (by omega) (by omega) (by omega) a0 a1]
  rfl

theorem add_w (x y : Int) : tag_Add.f (0 + 3) (iw x) (iw y) = some (iw (x + y), 0) := by
  rw [add_t 0 (iw_bd x).1 (iw_bd x).2 (iw_bd y).1 (iw_bd y).2, two_some (op := 0) (iw_four x) (iw_four y) (by omega), opv_add, nv_iw, nv_iw]
  rw [iw_add (sw x) (sw y) x y (sw_mod x) (sw_mod y)]
theorem sub_w (x y : Int) : tag_Sub.f (0 + 3) (iw x) (iw y) = some (iw (x - y), 0) := by
  rw [sub_t 0 (iw_bd x).1 (iw_bd x).2 (iw_bd y).1 (iw_bd y).2, two_some (op := 1) (iw_four x) (iw_four y) (by omega), opv_sub, nv_iw, nv_iw]
  rw [iw_sub (sw x) (sw y) x y (sw_mod x) (sw_mod y)]
theorem mul_w (x y : Int) : tag_Mul.f (0 + 3) (iw x) (iw y) = some (iw (x * y), 0) := by
  rw [mul_t 0 (iw_bd x).1 (iw_bd x).2 (iw_bd y).1 (iw_bd y).2, two_some (op := 2) (iw_four x) (iw_four y) (by omega), opv_mul, nv_iw, nv_iw]
  rw [iw_mul (sw x) (sw y) x y (sw_mod x) (sw_mod y)]
theorem neg_w (x : Int) : tag_Neg.f (0 + 3) (iw x) = some (iw (-x), 0) := by
  have z : nv 0 = 0 := by unfold nv sw; omega
  rw [neg_t 0 (iw_bd x).1 (iw_bd x).2, two_some (op := 1) (by omega) (iw_four x) (by omega), opv_sub, nv_iw, z]
  rw [iw_sub 0 (sw x) 0 x rfl (sw_mod x), Int.zero_sub]

theorem TagRules : jacquardlaw01_TagRules.Pure := by
  intro x y z _ _ _
  refine ⟨0 + 3, ?_⟩
  unfold jacquardlaw01_TagRules.f
  simp only [int_t, Option.bind_some, add_w, sub_w, mul_w, neg_w, live_t]
  rw [if_pos (by rw [Int.add_comm]), if_pos (by rw [Int.add_assoc]), if_pos (by rw [Int.mul_comm]), if_pos (by rw [Int.mul_add]), if_pos (by rw [Int.sub_eq_add_neg])]

end Go.Proofs.Ytojohijgacnljaa.Pure
