/- The contract of live: the page's examples hold. -/
import Derived.Test.YthadgapgnlghfaaFold
import Derived.KernelRfl
namespace Go.Proofs.Ythadgapgnlghfaa
open Go Go.RowKit Go.Proofs.Ythadgapgnlghfaa.Dbl

theorem FR_val {op : BinOp} {x y r v : Nat} (h : FR op x y r) (hv : floatBits op .f64 x y = some v) : r = v := by
  unfold FR at h; rw [hv] at h; exact h
theorem MulR_val {a b c d re im x y : Nat} (h : MulR a b c d re im) (hv : cMulBits a b c d = some (x, y)) : re = x ∧ im = y := by
  obtain ⟨p, q, r, s, h1, h2, h3, h4, h5, h6⟩ := h
  unfold cMulBits at hv
  obtain ⟨_, e1, hv⟩ := bind_some hv
  obtain ⟨_, e2, hv⟩ := bind_some hv
  obtain ⟨_, e3, hv⟩ := bind_some hv
  obtain ⟨_, e4, hv⟩ := bind_some hv
  obtain ⟨_, e5, hv⟩ := bind_some hv
  obtain ⟨_, e6, hv⟩ := bind_some hv
  cases hv
  obtain rfl := FR_val h1 e1
  obtain rfl := FR_val h2 e2
  obtain rfl := FR_val h4 e4
  obtain rfl := FR_val h5 e5
  exact ⟨FR_val h3 e3, FR_val h6 e6⟩

def RetK (v : Value) (w : World) (e : Ending) (w' : World) : Prop := e = .returned v ∧ ∃ n, w' = w.drewN n

theorem make_k (x y : Int) (a b : Nat) (w : World) (ha : iword x = a) (hb : iword y = b) : Calls Try.prog 12 #[.int .i64 x, .int .i64 y] w (RetK (.complex .f64 a b) w) := by
  subst ha hb
  exact (make_c x y w).mono fun _ _ ⟨h1, h2⟩ => ⟨h1, 0, h2.symm⟩

theorem div_k (w : World) : Calls Try.prog 21 #[.complex .f64 4607182418800017408 0, .complex .f64 0 0] w (RetK (.tuple #[.complex .f64 0 0, .int .i64 10]) w) := by
  refine (div_c _ _ _ _ w).mono ?_
  rintro e w' ⟨a, b, k, ⟨n, ⟨p, q, h1, h2, h3⟩, h⟩, rfl, m, rfl⟩
  obtain rfl := FR_val (v := 0) h1 (by kernel_rfl)
  obtain rfl := FR_val (v := 0) h2 (by kernel_rfl)
  obtain rfl := FR_val (v := 0) h3 (by kernel_rfl)
  have hz : isZ 0 = true := by kernel_rfl
  rcases h with ⟨_, rfl, rfl, rfl⟩ | ⟨h, _⟩
  · exact ⟨rfl, _, rfl⟩
  · rw [hz] at h; cases h

theorem power_k (w : World) : Calls Try.prog 27 #[.complex .f64 0 4607182418800017408, .int .i64 2] w (RetK (.tuple #[.complex .f64 13830554455654793216 0, .int .i64 0]) w) := by
  refine (power_in 0 4607182418800017408 2 w (by omega)).mono ?_
  rintro e w' ⟨a, b, k, ⟨rfl, p, q, ⟨r, s, ⟨rfl, rfl⟩, h1⟩, h2⟩, rfl, m, rfl⟩
  obtain ⟨rfl, rfl⟩ := MulR_val (x := 0) (y := 4607182418800017408) h1 (by kernel_rfl)
  obtain ⟨rfl, rfl⟩ := MulR_val (x := 13830554455654793216) (y := 0) h2 (by kernel_rfl)
  exact ⟨rfl, _, rfl⟩

theorem part_k (w : World) : Calls Try.prog 18 #[.complex .f64 4611686018427387904 4613937818241073152, .bool true] w (RetK (.tuple #[.int .i64 3, .int .i64 0]) w) := by
  have h1 : pv 4613937818241073152 = 3 := by kernel_rfl
  have h2 : pe 4613937818241073152 = 0 := by kernel_rfl
  refine (part_im _ _ w).mono ?_
  rw [h1, h2]
  rintro e w' ⟨rfl, rfl⟩
  exact ⟨rfl, 0, rfl⟩

theorem mul_k (w : World) : Calls Try.prog 16 #[.complex .f64 4607182418800017408 4611686018427387904, .complex .f64 4613937818241073152 4616189618054758400] w (RetK (.complex .f64 13840687554816376832 4621819117588971520) w) := by
  refine (mul_c _ _ _ _ w).mono ?_
  rintro e w' ⟨a, b, h, rfl, m, rfl⟩
  obtain ⟨rfl, rfl⟩ := MulR_val (x := 13840687554816376832) (y := 4621819117588971520) h (by kernel_rfl)
  exact ⟨rfl, _, rfl⟩

theorem fold_k (B : Nat) (w : World) (h0 : w.cell? ⟨B, 0, none⟩ = some (.complex .f64 4607182418800017408 0)) (h1 : w.cell? ⟨B, 1, none⟩ = some (.complex .f64 4611686018427387904 0)) :
    Calls Try.prog 29 #[.slice (some ⟨B, 0, none⟩) 2 2, .complex .f64 4613937818241073152 0] w (RetK (.complex .f64 4619567317775286272 0) w) := by
  refine (fold_c [(4607182418800017408, 0), (4611686018427387904, 0)] 2 2 B 0 _ _ w rfl (by omega) (by omega) ?_).mono ?_
  · intro i hi
    match i, hi with
    | 0, _ => exact h0
    | 1, _ => exact h1
  · rintro e w' ⟨a, b, ⟨p, q, r, s, ⟨p', q', r', s', ⟨rfl, rfl⟩, g1, g2, g3⟩, g4, g5, g6⟩, rfl, m, rfl⟩
    obtain ⟨rfl, rfl⟩ := MulR_val (x := 0) (y := 0) g1 (by kernel_rfl)
    obtain rfl := FR_val (v := 4611686018427387904) g2 (by kernel_rfl)
    obtain rfl := FR_val (v := 0) g3 (by kernel_rfl)
    obtain ⟨rfl, rfl⟩ := MulR_val (x := 4618441417868443648) (y := 0) g4 (by kernel_rfl)
    obtain rfl := FR_val (v := 4619567317775286272) g5 (by kernel_rfl)
    obtain rfl := FR_val (v := 0) g6 (by kernel_rfl)
    exact ⟨rfl, _, rfl⟩

theorem like_k (a b c d : Nat) (w : World) (h : sameB a b c d = true) : Calls Try.prog 26 #[.complex .f64 a b, zv c d] w fun e w' => e = .returned (.bool true) ∧ Below w.heap.size w w' := by
  have := like_c a b c d w
  rw [h] at this
  exact this

theorem built0 (w : World) (B n : Nat) (x y : Value) (t : TypeId) (hB : B = w.heap.size) : ((w.alloc (.cells #[x, y] t)).drewN n).cell? ⟨B, 0, none⟩ = some x := by subst hB; simp
theorem built1 (w : World) (B n : Nat) (x y : Value) (t : TypeId) (hB : B = w.heap.size) : ((w.alloc (.cells #[x, y] t)).drewN n).cell? ⟨B, 1, none⟩ = some y := by subst hB; simp

theorem Below.step {w a b : World} (h : Below w.heap.size w a) (h' : Below a.heap.size a b) : Below w.heap.size w b := h.trans (h'.mono h.size)

theorem live_c (w : World) : Calls Try.prog 11 #[] w fun e w' => e = .returned (.bool true) ∧ Below w.heap.size w w' := by
  go_enter Try.func11, Try.ntmps11
  go_wp2_with (first
    | (go_at_call 12; (first | (with_reducible refine (make_k 1 0 4607182418800017408 0 _ (by kernel_rfl) (by kernel_rfl)).mono ?_) | (with_reducible refine (make_k 0 0 0 0 _ (by kernel_rfl) (by kernel_rfl)).mono ?_) | (with_reducible refine (make_k 0 1 0 4607182418800017408 _ (by kernel_rfl) (by kernel_rfl)).mono ?_) | (with_reducible refine (make_k 2 3 4611686018427387904 4613937818241073152 _ (by kernel_rfl) (by kernel_rfl)).mono ?_) | (with_reducible refine (make_k 2 0 4611686018427387904 0 _ (by kernel_rfl) (by kernel_rfl)).mono ?_) | (with_reducible refine (make_k 3 0 4613937818241073152 0 _ (by kernel_rfl) (by kernel_rfl)).mono ?_) | (with_reducible refine (make_k 1 2 4607182418800017408 4611686018427387904 _ (by kernel_rfl) (by kernel_rfl)).mono ?_) | (with_reducible refine (make_k 3 4 4613937818241073152 4616189618054758400 _ (by kernel_rfl) (by kernel_rfl)).mono ?_)); rintro e w' ⟨rfl, n, rfl⟩)
    | (go_at_call 21; (with_reducible refine (div_k _).mono ?_); rintro e w' ⟨rfl, n, rfl⟩)
    | (go_at_call 27; (with_reducible refine (power_k _).mono ?_); rintro e w' ⟨rfl, n, rfl⟩)
    | (go_at_call 18; (with_reducible refine (part_k _).mono ?_); rintro e w' ⟨rfl, n, rfl⟩)
    | (go_at_call 16; (with_reducible refine (mul_k _).mono ?_); rintro e w' ⟨rfl, n, rfl⟩)
    | (go_at_call 19; refine (num_c _ _).mono ?_; rintro e w' ⟨rfl, rfl⟩)
    | (go_at_call 29; (refine (fold_k _ _ (built0 _ _ _ _ _ _ rfl) (built1 _ _ _ _ _ _ rfl)).mono ?_); rintro e w' ⟨rfl, n, rfl⟩)
    | (go_at_call 26; (with_reducible refine (like_k _ _ _ _ _ (by kernel_rfl)).mono ?_); rintro e w1 ⟨rfl, hb⟩))
  go_ret
  refine ⟨rfl, ?_⟩
  repeat (first | exact Below.refl _ _ | refine below_drewN ?_ _ | refine Below.alloc ?_ (by simp) _ | refine Below.step ?_ (by assumption))
end Go.Proofs.Ythadgapgnlghfaa
