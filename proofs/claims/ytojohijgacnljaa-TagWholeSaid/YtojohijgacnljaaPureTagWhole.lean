/- TagWhole: a number is its quotient by another one, times that one, and what is left, which is nearer to 0 than that one. Proved for every input: no condition. -/
import Derived.Test.YtojohijgacnljaaPTagWholex2
import Derived.KernelRfl
import Derived.KernelRfl
import Derived.KernelRfl
import Derived.KernelRfl
import Derived.KernelRfl
import Derived.Test.YtojohijgacnljaaTagPlain
import Derived.KernelRfl
namespace Go.Proofs.Ytojohijgacnljaa.Pure
open Go.RowKit Go.Proofs.Ytojohijgacnljaa.PTagWhole Go.Proofs.Ytojohijgacnljaa.Plain

theorem num_t {v : Int} (h0 : 0 ≤ v) (h1 : v < 18446744073709551616) : tag_Num.f v = some (if v % 4 = 0 then (nv v, true) else (0, false)) := by
  unfold tag_Num.f
  rw [and3 h0 h1]
  by_cases h : v % 4 = 0
  · rw [if_pos h, if_pos h, num_word h0 h1 h]
  · rw [if_neg h, if_neg h]

theorem int_t (n : Int) : tag_Int.f n = some (iw n) := by
  unfold tag_Int.f
  rw [int_word]

theorem two_j2 (k : Nat) (x y : Int) : tag_two.j2 (k + 1) x y = some (iw (x + y), 0) := by
  simp only [tag_two.j2, int_t, Option.bind_some, iw_wrap]

theorem two_j1 (k : Nat) (op x y : Int) (hop : 0 ≤ op ∧ op ≤ 4) (hy : 3 ≤ op → y ≠ 0) : tag_two.j1 (k + 2) op x y = some (iw (opv op x y), 0) := by
  obtain ⟨ha, hb⟩ := hop
  obtain h | h | h | h | h : op = 0 ∨ op = 1 ∨ op = 2 ∨ op = 3 ∨ op = 4 := by omega
  all_goals subst h
  · simp only [tag_two.j1, int_t, Option.bind_some, iw_wrap, two_j2, opv]; simp
  · simp only [tag_two.j1, two_j2, opv]
    simp only [if_true]
    rw [iw_congr (a := x + wrap64 (-y)) (b := x - y) (by unfold wrap64; omega)]
  · simp only [tag_two.j1, int_t, Option.bind_some, iw_wrap, opv]; simp
  · simp only [tag_two.j1, int_t, Option.bind_some, iw_wrap, opv]; rw [if_neg (hy (by omega))]; simp
  · simp only [tag_two.j1, int_t, Option.bind_some, opv]; simp [hy (by omega)]

theorem two_t (k : Nat) (op a b : Int) (hop : 0 ≤ op ∧ op ≤ 4) (a0 : 0 ≤ a) (a1 : a < 18446744073709551616) (b0 : 0 ≤ b) (b1 : b < 18446744073709551616) :
    tag_two.f (k + 3) op a b = some (two op a b) := by
  unfold tag_two.f
  rw [num_t a0 a1, num_t b0 b1]
  by_cases ha : a % 4 = 0
  · by_cases hb : b % 4 = 0
    · simp only [if_pos ha, if_pos hb, Option.bind_some, if_true, Bool.not_true, tag_two.j0, Bool.false_eq_true, if_false]
      by_cases hz : nv b = 0
      · by_cases h3 : 3 ≤ op
        · rw [if_pos hz, if_pos h3, two_zero ha hb hz h3]
        · rw [if_pos hz, if_neg h3, two_some ha hb (fun h => h3 h.2)]
          exact two_j1 k op _ _ hop (fun h => absurd h h3)
      · rw [if_neg hz, two_some ha hb (fun h => hz h.1)]
        exact two_j1 k op _ _ hop (fun _ => hz)
    · rw [two_kind (fun h => hb h.2)]
      simp [ha, hb, tag_two.j0]
  · rw [two_kind (fun h => ha h.1)]
    simp [ha, tag_two.j0]

theorem live_t (k : Nat) : jacquardlaw01_live.f (k + 3) = some true := by
  induction k with
  | zero => kernel_rfl
  | succ k ih => exact jacquardlaw01_live.mono (k + 3) _ ih

theorem kind_t (k : Nat) {v : Int} (h0 : 0 ≤ v) (h1 : v < 18446744073709551616) : tag_Kind.f (k + 1) v = some (kd v) := by
  unfold tag_Kind.f kd
  rw [and3 h0 h1, wrap_of (n := v % 4) (by omega) (by omega)]
  by_cases h : v % 4 = 0
  · rw [if_pos h, if_pos h, h]
  · rw [if_neg h, if_neg h]
    by_cases h' : v % 4 = 1
    · rw [if_pos h', if_pos h', h']
      by_cases h9 : v ≤ 9 <;> simp [tag_Kind.j0, h9]
    · rw [if_neg h', if_neg h']
      simp only [tag_Kind.j0]
      rw [if_neg (by simp), if_pos (by omega)]
      by_cases hm : v / 4 ≤ 2147483647
      · rw [if_pos hm, if_pos hm]
      · rw [if_neg hm, if_neg hm]

theorem div_t (k : Nat) {a b : Int} (a0 : 0 ≤ a) (a1 : a < 18446744073709551616) (b0 : 0 ≤ b) (b1 : b < 18446744073709551616) : tag_Div.f (k + 3) a b = some (two 3 a b) := by
  unfold tag_Div.f
  rw [two_t k 3 a b (by omega) a0 a1 b0 b1]
  rfl

theorem mod_t (k : Nat) {a b : Int} (a0 : 0 ≤ a) (a1 : a < 18446744073709551616) (b0 : 0 ≤ b) (b1 : b < 18446744073709551616) : tag_Mod.f (k + 3) a b = some (two 4 a b) := by
  unfold tag_Mod.f
  rw [two_t k 4 a b (by omega) a0 a1 b0 b1]
  rfl

theorem mul_t (k : Nat) {a b : Int} (a0 : 0 ≤ a) (a1 : a < 18446744073709551616) (b0 : 0 ≤ b) (b1 : b < 18446744073709551616) : tag_Mul.f (k + 3) a b = some (two 2 a b) := by
  unfold tag_Mul.f
  rw [two_t k 2 a b (by omega) a0 a1 b0 b1]
  rfl

theorem add_t (k : Nat) {a b : Int} (a0 : 0 ≤ a) (a1 : a < 18446744073709551616) (b0 : 0 ≤ b) (b1 : b < 18446744073709551616) : tag_Add.f (k + 3) a b = some (two 0 a b) := by
  unfold tag_Add.f
  rw [two_t k 0 a b (by omega) a0 a1 b0 b1]
  rfl

theorem TagWhole : jacquardlaw01_TagWhole.Pure := by
  intro x y _ _
  refine ⟨0 + 3, ?_⟩
  unfold jacquardlaw01_TagWhole.f
  obtain ⟨a0, a1⟩ := iw_bd x
  obtain ⟨b0, b1⟩ := iw_bd y
  have a4 := iw_four x
  have b4 := iw_four y
  obtain ⟨y0, y1⟩ := sw_bd y
  obtain ⟨x0, x1⟩ := sw_bd x
  simp only [int_t, Option.bind_some]
  rw [div_t 0 a0 a1 b0 b1, mod_t 0 a0 a1 b0 b1, num_t b0 b1, num_t a0 a1, if_pos b4, if_pos a4, live_t]
  simp only [Option.bind_some, jacquardlaw01_num.f, nv_iw]
  by_cases hz : sw y = 0
  · rw [if_pos hz, two_zero (op := 3) a4 b4 (by rw [nv_iw]; exact hz) (by omega), two_zero (op := 4) a4 b4 (by rw [nv_iw]; exact hz) (by omega)]
    simp
  · rw [if_neg hz, two_some (op := 3) a4 b4 (by rw [nv_iw]; exact fun h => hz h.1), two_some (op := 4) a4 b4 (by rw [nv_iw]; exact fun h => hz h.1)]
    simp only [nv_iw, opv_div, opv_mod]
    obtain ⟨q0, q1⟩ := iw_bd ((sw x).tdiv (sw y))
    have q4 := iw_four ((sw x).tdiv (sw y))
    obtain ⟨m0, m1⟩ := iw_bd ((sw x).tmod (sw y))
    have m4 := iw_four ((sw x).tmod (sw y))
    rw [mul_t 0 q0 q1 b0 b1, two_some (op := 2) q4 b4 (by omega)]
    simp only [Option.bind_some, nv_iw, opv_mul]
    obtain ⟨p0, p1⟩ := iw_bd (sw ((sw x).tdiv (sw y)) * sw y)
    have p4 := iw_four (sw ((sw x).tdiv (sw y)) * sw y)
    rw [add_t 0 p0 p1 m0 m1, two_some (op := 0) p4 m4 (by omega), num_t m0 m1, if_pos m4]
    simp only [Option.bind_some, nv_iw, opv_add]
    have hs : iw (sw (sw ((sw x).tdiv (sw y)) * sw y) + sw ((sw x).tmod (sw y))) = iw x := by
      rw [← iw_sw x]
      have e := tmod_eq (sw x) (sw y)
      have : sw x = (sw x).tdiv (sw y) * sw y + (sw x).tmod (sw y) := by omega
      refine (iw_add _ _ ((sw x).tdiv (sw y) * sw y) ((sw x).tmod (sw y)) ?_ (sw_mod _)).trans (by rw [← this])
      rw [sw_mod, Int.mul_emod, sw_mod, ← Int.mul_emod]
    have hl : sw ((sw x).tmod (sw y)) = (sw x).tmod (sw y) := by
      have := tmod_abs (sw x) (sw y) hz
      exact sw_of (by omega) (by omega)
    have ht := tmod_abs (sw x) (sw y) hz
    have hg := tmod_sign (sw x) (sw y)
    rw [hs, hl]
    generalize (sw x).tmod (sw y) = l at *
    rw [wrap_of (n := -sw y) (by omega) (by omega), wrap_of (n := - -sw y) (by omega) (by omega)]
    by_cases hn : sw y < 0
    · rw [if_pos hn, if_pos (by unfold wrap64; omega), if_pos rfl, if_pos (by omega), if_pos (by omega)]
      by_cases h0 : l = 0
      · rw [if_pos h0]
      · rw [if_neg h0, if_pos (by simp only [beq_iff_eq, decide_eq_decide]; omega)]
    · rw [if_neg hn, if_pos (by unfold wrap64; omega), if_pos rfl, if_pos (by omega), if_pos (by omega)]
      by_cases h0 : l = 0
      · rw [if_pos h0]
      · rw [if_neg h0, if_pos (by simp only [beq_iff_eq, decide_eq_decide]; omega)]

end Go.Proofs.Ytojohijgacnljaa.Pure
