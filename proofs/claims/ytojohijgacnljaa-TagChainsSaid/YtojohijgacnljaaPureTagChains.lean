/- TagChains: what is below something that is below a third is below that, for any three numbers. Proved for every input: no condition. -/
import Derived.Test.YtojohijgacnljaaPTagChainsx2
import Derived.KernelRfl
import Derived.KernelRfl
import Derived.KernelRfl
import Derived.KernelRfl
import Derived.KernelRfl
import Derived.Test.YtojohijgacnljaaTagPlain
import Derived.KernelRfl
namespace Go.Proofs.Ytojohijgacnljaa.Pure
open Go.RowKit Go.Proofs.Ytojohijgacnljaa.PTagChains Go.Proofs.Ytojohijgacnljaa.Plain

theorem num_t {v : Int} (h0 : 0 ≤ v) (h1 : v < 18446744073709551616) : tag_Num.f v = some (if v % 4 = 0 then (nv v, true) else (0, false)) := by
  unfold tag_Num.f
  rw [and3 h0 h1]
  by_cases h : v % 4 = 0
  · rw [if_pos h, if_pos h, num_word h0 h1 h]
  · rw [if_neg h, if_neg h]

theorem int_t (n : Int) : tag_Int.f n = some (iw n) := by
  unfold tag_Int.f
  rw [int_word]

theorem two_j2 (k : Nat) (x y : Int) : tag_two.j2 (k + 1) x y = some (iw (x + y), 0) := by
  simp only [tag_two.j2, int_t, Option.bind_some, iw_wrap]

theorem two_j1 (k : Nat) (op x y : Int) (hop : 0 ≤ op ∧ op ≤ 4) (hy : 3 ≤ op → y ≠ 0) : tag_two.j1 (k + 2) op x y = some (iw (opv op x y), 0) := by
  obtain ⟨ha, hb⟩ := hop
  obtain h | h | h | h | h : op = 0 ∨ op = 1 ∨ op = 2 ∨ op = 3 ∨ op = 4 := by omega
  all_goals subst h
  · simp only [tag_two.j1, int_t, Option.bind_some, iw_wrap, two_j2, opv]; simp
  · simp only [tag_two.j1, two_j2, opv]
    simp only [if_true]
    rw [iw_congr (a := x + wrap64 (-y)) (b := x - y) (by unfold wrap64; omega)]
  · simp only [tag_two.j1, int_t, Option.bind_some, iw_wrap, opv]; simp
  · simp only [tag_two.j1, int_t, Option.bind_some, iw_wrap, opv]; rw [if_neg (hy (by omega))]; simp
  · simp only [tag_two.j1, int_t, Option.bind_some, opv]; simp [hy (by omega)]

theorem two_t (k : Nat) (op a b : Int) (hop : 0 ≤ op ∧ op ≤ 4) (a0 : 0 ≤ a) (a1 : a < 18446744073709551616) (b0 : 0 ≤ b) (b1 : b < 18446744073709551616) :
    tag_two.f (k + 3) op a b = some (two op a b) := by
  unfold tag_two.f
  rw [num_t a0 a1, num_t b0 b1]
  by_cases ha : a % 4 = 0
  · by_cases hb : b % 4 = 0
    · simp only [if_pos ha, if_pos hb, Option.bind_some, if_true, Bool.not_true, tag_two.j0, Bool.false_eq_true, if_false]
      by_cases hz : nv b = 0
      · by_cases h3 : 3 ≤ op
        · rw [if_pos hz, if_pos h3, two_zero ha hb hz h3]
        · rw [if_pos hz, if_neg h3, two_some ha hb (fun h => h3 h.2)]
          exact two_j1 k op _ _ hop (fun h => absurd h h3)
      · rw [if_neg hz, two_some ha hb (fun h => hz h.1)]
        exact two_j1 k op _ _ hop (fun _ => hz)
    · rw [two_kind (fun h => hb h.2)]
      simp [ha, hb, tag_two.j0]
  · rw [two_kind (fun h => ha h.1)]
    simp [ha, tag_two.j0]

theorem live_t (k : Nat) : jacquardlaw01_live.f (k + 3) = some true := by
  induction k with
  | zero => kernel_rfl
  | succ k ih => exact jacquardlaw01_live.mono (k + 3) _ ih

theorem kind_t (k : Nat) {v : Int} (h0 : 0 ≤ v) (h1 : v < 18446744073709551616) : tag_Kind.f (k + 1) v = some (kd v) := by
  unfold tag_Kind.f kd
  rw [and3 h0 h1, wrap_of (n := v % 4) (by omega) (by omega)]
  by_cases h : v % 4 = 0
  · rw [if_pos h, if_pos h, h]
  · rw [if_neg h, if_neg h]
    by_cases h' : v % 4 = 1
    · rw [if_pos h', if_pos h', h']
      by_cases h9 : v ≤ 9 <;> simp [tag_Kind.j0, h9]
    · rw [if_neg h', if_neg h']
      simp only [tag_Kind.j0]
      rw [if_neg (by simp), if_pos (by omega)]
      by_cases hm : v / 4 ≤ 2147483647
      · rw [if_pos hm, if_pos hm]
      · rw [if_neg hm, if_neg hm]

theorem less_t {a b : Int} (a0 : 0 ≤ a) (a1 : a < 18446744073709551616) (b0 : 0 ≤ b) (b1 : b < 18446744073709551616) : tag_Less.f a b = some (ls a b) := by
  unfold tag_Less.f ls
  rw [num_t a0 a1, num_t b0 b1]
  by_cases ha : a % 4 = 0 <;> by_cases hb : b % 4 = 0 <;> simp [ha, hb]

theorem TagChains : jacquardlaw01_TagChains.Pure := by
  intro x y z _ _ _
  refine ⟨0 + 3, ?_⟩
  unfold jacquardlaw01_TagChains.f
  have l : ∀ p q : Int, tag_Less.f (iw p) (iw q) = some (decide (sw p < sw q), 0) := fun p q => by
    rw [less_t (iw_bd p).1 (iw_bd p).2 (iw_bd q).1 (iw_bd q).2]
    unfold ls
    rw [if_pos ⟨iw_four p, iw_four q⟩, nv_iw, nv_iw]
  simp only [int_t, Option.bind_some, l, live_t, jacquardlaw01_num.f]
  by_cases h : sw x < sw y
  · by_cases h' : sw y < sw z
    · have : sw x < sw z := by omega
      simp [h, h', this]
    · simp [h, h']
  · simp [h]

end Go.Proofs.Ytojohijgacnljaa.Pure
