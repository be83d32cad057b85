/- TagNegates: the negative of the negative is the number, and their sum is 0; of all else it is ErrKind. Proved for every input: no condition. -/
import Derived.Test.YtojohijgacnljaaPTagNegatesx2
import Derived.KernelRfl
import Derived.KernelRfl
import Derived.KernelRfl
import Derived.KernelRfl
import Derived.KernelRfl
import Derived.Test.YtojohijgacnljaaTagPlain
import Derived.KernelRfl
namespace Go.Proofs.Ytojohijgacnljaa.Pure
open Go.RowKit Go.Proofs.Ytojohijgacnljaa.PTagNegates Go.Proofs.Ytojohijgacnljaa.Plain

theorem num_t {v : Int} (h0 : 0 ≤ v) (h1 : v < 18446744073709551616) : tag_Num.f v = some (if v % 4 = 0 then (nv v, true) else (0, false)) := by
  unfold tag_Num.f
  rw [and3 h0 h1]
  by_cases h : v % 4 = 0
  · rw [if_pos h, if_pos h, num_word h0 h1 h]
  · rw [if_neg h, if_neg h]

theorem int_t (n : Int) : tag_Int.f n = some (iw n) := by
  unfold tag_Int.f
  rw [int_word]

theorem two_j2 (k : Nat) (x y : Int) : tag_two.j2 (k + 1) x y = some (iw (x + y), 0) := by
  simp only [tag_two.j2, int_t, Option.bind_some, iw_wrap]

theorem two_j1 (k : Nat) (op x y : Int) (hop : 0 ≤ op ∧ op ≤ 4) (hy : 3 ≤ op → y ≠ 0) : tag_two.j1 (k + 2) op x y = some (iw (opv op x y), 0) := by
  obtain ⟨ha, hb⟩ := hop
  obtain h | h | h | h | h : op = 0 ∨ op = 1 ∨ op = 2 ∨ op = 3 ∨ op = 4 := by omega
  all_goals subst h
  · simp only [tag_two.j1, int_t, Option.bind_some, iw_wrap, two_j2, opv]; simp
  · simp only [tag_two.j1, two_j2, opv]
    simp only [if_true]
    rw [iw_congr (a := x + wrap64 (-y)) (b := x - y) (by unfold wrap64; omega)]
  · simp only [tag_two.j1, int_t, Option.bind_some, iw_wrap, opv]; simp
  · simp only [tag_two.j1, int_t, Option.bind_some, iw_wrap, opv]; rw [if_neg (hy (by omega))]; simp
  · simp only [tag_two.j1, int_t, Option.bind_some, opv]; simp [hy (by omega)]

theorem two_t (k : Nat) (op a b : Int) (hop : 0 ≤ op ∧ op ≤ 4) (a0 : 0 ≤ a) (a1 : a < 18446744073709551616) (b0 : 0 ≤ b) (b1 : b < 18446744073709551616) :
    tag_two.f (k + 3) op a b = some (two op a b) := by
  unfold tag_two.f
  rw [num_t a0 a1, num_t b0 b1]
  by_cases ha : a % 4 = 0
  · by_cases hb : b % 4 = 0
    · simp only [if_pos ha, if_pos hb, Option.bind_some, if_true, Bool.not_true, tag_two.j0, Bool.false_eq_true, if_false]
      by_cases hz : nv b = 0
      · by_cases h3 : 3 ≤ op
        · rw [if_pos hz, if_pos h3, two_zero ha hb hz h3]
        · rw [if_pos hz, if_neg h3, two_some ha hb (fun h => h3 h.2)]
          exact two_j1 k op _ _ hop (fun h => absurd h h3)
      · rw [if_neg hz, two_some ha hb (fun h => hz h.1)]
        exact two_j1 k op _ _ hop (fun _ => hz)
    · rw [two_kind (fun h => hb h.2)]
      simp [ha, hb, tag_two.j0]
  · rw [two_kind (fun h => ha h.1)]
    simp [ha, tag_two.j0]

theorem live_t (k : Nat) : jacquardlaw01_live.f (k + 3) = some true := by
  induction k with
  | zero => kernel_rfl
  | succ k ih => exact jacquardlaw01_live.mono (k + 3) _ ih

theorem kind_t (k : Nat) {v : Int} (h0 : 0 ≤ v) (h1 : v < 18446744073709551616) : tag_Kind.f (k + 1) v = some (kd v) := by
  unfold tag_Kind.f kd
  rw [and3 h0 h1, wrap_of (n := v % 4) (by omega) (by omega)]
  by_cases h : v % 4 = 0
  · rw [if_pos h, if_pos h, h]
  · rw [if_neg h, if_neg h]
    by_cases h' : v % 4 = 1
    · rw [if_pos h', if_pos h', h']
      by_cases h9 : v ≤ 9 <;> simp [tag_Kind.j0, h9]
    · rw [if_neg h', if_neg h']
      simp only [tag_Kind.j0]
      rw [if_neg (by simp), if_pos (by omega)]
      by_cases hm : v / 4 ≤ 2147483647
      · rw [if_pos hm, if_pos hm]
      · rw [if_neg hm, if_neg hm]

theorem neg_t (k : Nat) {a : Int} (a0 : 0 ≤ a) (a1 : a < 18446744073709551616) : tag_Neg.f (k + 3) a = some (two 1 0 a) := by
  unfold tag_Neg.f
  rw [two_t k 1 0 a (by omega) (by omega) (by omega) a0 a1]
  rfl

theorem add_t (k : Nat) {a b : Int} (a0 : 0 ≤ a) (a1 : a < 18446744073709551616) (b0 : 0 ≤ b) (b1 : b < 18446744073709551616) : tag_Add.f (k + 3) a b = some (two 0 a b) := by
  unfold tag_Add.f
  rw [two_t k 0 a b (by omega) a0 a1 b0 b1]
  rfl

theorem TagNegates : jacquardlaw01_TagNegates.Pure := by
  intro a ha
  obtain ⟨a0, a1⟩ := wf_u64 ha
  refine ⟨0 + 3, ?_⟩
  unfold jacquardlaw01_TagNegates.f
  rw [neg_t 0 a0 a1, kind_t (0 + 2) a0 a1, live_t]
  simp only [Option.bind_some, jacquardlaw01_num.f]
  by_cases h : a % 4 = 0
  · have z : nv 0 = 0 := by unfold nv sw; omega
    have k0 : kd a = 0 := by unfold kd; rw [if_pos h]
    rw [two_some (op := 1) (by omega) h (by omega)]
    simp only [opv_sub, z, Int.zero_sub, k0, if_true]
    obtain ⟨n0, n1⟩ := iw_bd (-nv a)
    have n4 := iw_four (-nv a)
    rw [neg_t 0 n0 n1, add_t 0 a0 a1 n0 n1, two_some (op := 1) (by omega) n4 (by omega), two_some (op := 0) h n4 (by omega)]
    simp only [Option.bind_some, opv_sub, opv_add, z, Int.zero_sub, nv_iw]
    have e1 : iw (-sw (-nv a)) = a := by
      rw [← iw_nv a0 a1 h]
      refine iw_congr ?_
      unfold sw; rw [iw_nv a0 a1 h]; omega
    have e2 : iw (nv a + sw (-nv a)) = 0 := by unfold iw sw; omega
    rw [e1, e2]
    simp
    unfold wrap64; omega
  · have k0 : kd a ≠ 0 := by
      unfold kd
      rw [if_neg h]
      by_cases y : a % 4 = 1
      · rw [if_pos y]; by_cases z : a ≤ 9
        · rw [if_pos z]; omega
        · rw [if_neg z]; omega
      · rw [if_neg y]; by_cases z : a / 4 ≤ 2147483647
        · rw [if_pos z]; exact h
        · rw [if_neg z]; omega
    have e : two 1 0 a = (0, 8) := by unfold two; rw [if_neg (fun x => h x.2)]
    rw [e]
    simp [k0]

end Go.Proofs.Ytojohijgacnljaa.Pure
