/- TagBack: a number is told and made again; one in range is told as it was; indices are, too; all values made have their kinds. Proved for every input: no condition. -/
import Derived.Test.YtojohijgacnljaaPTagBackx2
import Derived.Test.YtojohijgacnljaaTagPlain
import Derived.KernelRfl
namespace Go.Proofs.Ytojohijgacnljaa.Pure
open Go.RowKit Go.Proofs.Ytojohijgacnljaa.PTagBack Go.Proofs.Ytojohijgacnljaa.Plain

theorem num_t {v : Int} (h0 : 0 ≤ v) (h1 : v < 18446744073709551616) : tag_Num.f v = some (if v % 4 = 0 then (nv v, true) else (0, false)) := by
  unfold tag_Num.f
  rw [and3 h0 h1]
  by_cases h : v % 4 = 0
  · rw [if_pos h, if_pos h, num_word h0 h1 h]
  · rw [if_neg h, if_neg h]

theorem int_t (n : Int) : tag_Int.f n = some (iw n) := by
  unfold tag_Int.f
  rw [int_word]

theorem two_j2 (k : Nat) (x y : Int) : tag_two.j2 (k + 1) x y = some (iw (x + y), 0) := by
  simp only [tag_two.j2, int_t, Option.bind_some, iw_wrap]

theorem two_j1 (k : Nat) (op x y : Int) (hop : 0 ≤ op ∧ op ≤ 4) (hy : 3 ≤ op → y ≠ 0) : tag_two.j1 (k + 2) op x y = some (iw (opv op x y), 0) := by
  obtain ⟨ha, hb⟩ := hop
  obtain h | h | h | h | h : op = 0 ∨ op = 1 ∨ op = 2 ∨ op = 3 ∨ op = 4 := by omega
  all_goals subst h
  · simp only [tag_two.j1, int_t, Option.bind_some, iw_wrap, two_j2, opv]; simp
  · simp only [tag_two.j1, two_j2, opv]
    simp only [if_true]
    rw [iw_congr (a := x + wrap64 (-y)) (b := x - y) (by unfold wrap64; omega)]
  · simp only [tag_two.j1, int_t, Option.bind_some, iw_wrap, opv]; simp
  · simp only [tag_two.j1, int_t, Option.bind_some, iw_wrap, opv]; rw [if_neg (hy (by omega))]; simp
  · simp only [tag_two.j1, int_t, Option.bind_some, opv]; simp [hy (by omega)]

theorem two_t (k : Nat) (op a b : Int) (hop : 0 ≤ op ∧ op ≤ 4) (a0 : 0 ≤ a) (a1 : a < 18446744073709551616) (b0 : 0 ≤ b) (b1 : b < 18446744073709551616) :
    tag_two.f (k + 3) op a b = some (two op a b) := by
  unfold tag_two.f
  rw [num_t a0 a1, num_t b0 b1]
  by_cases ha : a % 4 = 0
  · by_cases hb : b % 4 = 0
    · simp only [if_pos ha, if_pos hb, Option.bind_some, if_true, Bool.not_true, tag_two.j0, Bool.false_eq_true, if_false]
      by_cases hz : nv b = 0
      · by_cases h3 : 3 ≤ op
        · rw [if_pos hz, if_pos h3, two_zero ha hb hz h3]
        · rw [if_pos hz, if_neg h3, two_some ha hb (fun h => h3 h.2)]
          exact two_j1 k op _ _ hop (fun h => absurd h h3)
      · rw [if_neg hz, two_some ha hb (fun h => hz h.1)]
        exact two_j1 k op _ _ hop (fun _ => hz)
    · rw [two_kind (fun h => hb h.2)]
      simp [ha, hb, tag_two.j0]
  · rw [two_kind (fun h => ha h.1)]
    simp [ha, tag_two.j0]

theorem live_t (k : Nat) : jacquardlaw01_live.f (k + 3) = some true := by
  induction k with
  | zero => kernel_rfl
  | succ k ih => exact jacquardlaw01_live.mono (k + 3) _ ih

theorem kind_t (k : Nat) {v : Int} (h0 : 0 ≤ v) (h1 : v < 18446744073709551616) : tag_Kind.f (k + 1) v = some (kd v) := by
  unfold tag_Kind.f kd
  rw [and3 h0 h1, wrap_of (n := v % 4) (by omega) (by omega)]
  by_cases h : v % 4 = 0
  · rw [if_pos h, if_pos h, h]
  · rw [if_neg h, if_neg h]
    by_cases h' : v % 4 = 1
    · rw [if_pos h', if_pos h', h']
      by_cases h9 : v ≤ 9 <;> simp [tag_Kind.j0, h9]
    · rw [if_neg h', if_neg h']
      simp only [tag_Kind.j0]
      rw [if_neg (by simp), if_pos (by omega)]
      by_cases hm : v / 4 ≤ 2147483647
      · rw [if_pos hm, if_pos hm]
      · rw [if_neg hm, if_neg hm]

theorem index_t (k : Nat) {v : Int} (h0 : 0 ≤ v) (h1 : v < 18446744073709551616) : tag_Index.f (k + 1) v = some (if 2 ≤ v % 4 ∧ v / 4 ≤ 2147483647 then (v / 4, true) else (0, false)) := by
  unfold tag_Index.f
  rw [kind_t k h0 h1]
  simp only [Option.bind_some]
  rw [wrap_of (n := v / 4) (by omega) (by omega)]
  by_cases h : 2 ≤ v % 4 ∧ v / 4 ≤ 2147483647
  · have e : kd v = v % 4 := by unfold kd; rw [if_neg (by omega), if_neg (by omega), if_pos h.2]
    rw [if_pos h, e, if_neg (by omega), if_neg (by omega)]
  · rw [if_neg h]
    have e : kd v < 2 ∨ kd v = 4 := by
      unfold kd
      by_cases x : v % 4 = 0
      · rw [if_pos x]; omega
      · rw [if_neg x]
        by_cases y : v % 4 = 1
        · rw [if_pos y]; by_cases z : v ≤ 9
          · rw [if_pos z]; omega
          · rw [if_neg z]; omega
        · rw [if_neg y, if_neg (by omega)]; omega
    rcases e with e | e
    · rw [if_pos e]
    · rw [e, if_neg (by omega), if_pos rfl]

theorem ix_t (i t : Int) (ht : 0 ≤ t ∧ t < 4) : tag_indexed.f i t = some (ix i t) := by
  unfold tag_indexed.f ix
  by_cases h : i < 0
  · rw [if_pos h, if_neg (by omega)]
  · by_cases h' : i > 2147483647
    · rw [if_neg h, if_pos h', if_neg (by omega)]
    · rw [if_neg h, if_neg h', if_pos (by omega), or_tag (by omega) (by omega) ht]
theorem ref_t (i : Int) : tag_Ref.f i = some (ix i 2) := by
  unfold tag_Ref.f; rw [ix_t i 2 (by omega)]; rfl
theorem prim_t (i : Int) : tag_Prim.f i = some (ix i 3) := by
  unfold tag_Prim.f; rw [ix_t i 3 (by omega)]; rfl

theorem back_j2 (k : Nat) (n : Int) : jacquardlaw01_TagBack.j2 (k + 4) n (ix n 2).1 (ix n 2).2 (ix n 3).1 (ix n 3).2 ((ix n 3).2 != 0) = some true := by
  simp only [jacquardlaw01_TagBack.j2]
  by_cases hn : 0 ≤ n ∧ n ≤ 2147483647
  · have a2 : ix n 2 = (n * 4 + 2, 0) := by unfold ix; rw [if_pos hn]
    have a3 : ix n 3 = (n * 4 + 3, 0) := by unfold ix; rw [if_pos hn]
    rw [a2, a3]
    rw [if_neg (by simp), index_t (k + 2) (v := n * 4 + 2) (by omega) (by omega), index_t (k + 2) (v := n * 4 + 3) (by omega) (by omega), if_pos (by omega), if_pos (by omega)]
    have k2 : kd (n * 4 + 2) = 2 := by unfold kd; rw [if_neg (by omega), if_neg (by omega), if_pos (by omega)]; omega
    have k3 : kd (n * 4 + 3) = 3 := by unfold kd; rw [if_neg (by omega), if_neg (by omega), if_pos (by omega)]; omega
    have k0 : kd (iw n) = 0 := by unfold kd; rw [if_pos (iw_four n)]
    rw [kind_t (k + 2) (v := n * 4 + 2) (by omega) (by omega), kind_t (k + 2) (v := n * 4 + 3) (by omega) (by omega), k2, k3]
    simp -implicitDefEqProofs only [Option.bind_some, if_true, int_t, live_t]
    rw [if_pos (by omega), if_pos (by omega), kind_t (k + 2) (iw_bd n).1 (iw_bd n).2, k0]
    simp
  · have a2 : ix n 2 = (0, 1) := by unfold ix; rw [if_neg hn]
    have a3 : ix n 3 = (0, 1) := by unfold ix; rw [if_neg hn]
    rw [a2, a3, if_pos (by simp)]
    simp only [Option.bind_some, jacquardlaw01_num.f, if_true, live_t]
    by_cases h : n < 0
    · rw [if_pos h]
    · rw [if_neg h, if_pos (by omega)]
theorem back_j1 (k : Nat) (n : Int) : jacquardlaw01_TagBack.j1 (k + 5) n false = some true := by
  simp only [jacquardlaw01_TagBack.j1]
  rw [if_neg (by decide), ref_t, prim_t]
  simp only [Option.bind_some, jacquardlaw01_num.f]
  by_cases hn : 0 ≤ n ∧ n ≤ 2147483647
  · rw [if_pos (by unfold ix; rw [if_pos hn])]
    exact back_j2 k n
  · rw [if_neg (by unfold ix; rw [if_neg hn]; simp)]
    have e : ((ix n 3).2 != 0) = true := by unfold ix; rw [if_neg hn]; simp
    have := back_j2 k n
    rw [e] at this
    exact this
theorem back_j0 (k : Nat) (n : Int) (h0 : -9223372036854775808 ≤ n) (h1 : n < 9223372036854775808) : jacquardlaw01_TagBack.j0 (k + 6) n false = some true := by
  simp only [jacquardlaw01_TagBack.j0]
  rw [if_neg (by decide), int_t]
  simp only [Option.bind_some]
  rw [num_t (iw_bd n).1 (iw_bd n).2, if_pos (iw_four n)]
  simp only [Option.bind_some, if_true, nv_iw]
  by_cases a : n ≥ -2305843009213693952
  · by_cases b : n ≤ 2305843009213693951
    · rw [if_pos a, if_pos b, sw_of a (by omega), bne_self_eq_false]
      exact back_j1 k n
    · rw [if_pos a, if_neg b]
      exact back_j1 k n
  · rw [if_neg a]
    exact back_j1 k n

theorem TagBack : jacquardlaw01_TagBack.Pure := by
  intro v n hv hn
  obtain ⟨v0, v1⟩ := wf_u64 hv
  obtain ⟨n0, n1⟩ := wf_i64 hn
  refine ⟨0 + 6, ?_⟩
  unfold jacquardlaw01_TagBack.f
  rw [num_t v0 v1]
  by_cases h : v % 4 = 0
  · obtain ⟨b0, b1⟩ := nv_bd v
    rw [if_pos h]
    simp only [Option.bind_some, if_true, int_t]
    rw [iw_nv v0 v1 h, if_pos rfl, if_neg (by omega), decide_eq_false (by omega)]
    exact back_j0 0 n n0 n1
  · rw [if_neg h]
    simp only [Option.bind_some]
    rw [if_neg (by decide)]
    exact back_j0 0 n n0 n1

end Go.Proofs.Ytojohijgacnljaa.Pure
