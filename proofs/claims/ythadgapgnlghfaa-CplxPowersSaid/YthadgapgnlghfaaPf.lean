/- The contracts of the program's functions on complex numbers. For every number. -/
import Derived.Test.YthadgapgnlghfaaFop
import Derived.Lib.Hide
import Derived.Deep.CutBlock
import Derived.Deep.DeepCutAuto
namespace Go.Proofs.Ythadgapgnlghfaa
open Go Go.RowKit Go.Proofs.Ythadgapgnlghfaa.Dbl

def RetF (R : Nat → Prop) (w : World) (e : Ending) (w' : World) : Prop := ∃ r, R r ∧ e = .returned (.float .f64 r) ∧ ∃ n, w' = w.drewN n
def RetC (R : Nat → Nat → Prop) (w : World) (e : Ending) (w' : World) : Prop := ∃ a b, R a b ∧ e = .returned (.complex .f64 a b) ∧ ∃ n, w' = w.drewN n
def RetCE (R : Nat → Nat → Int → Prop) (w : World) (e : Ending) (w' : World) : Prop := ∃ a b k, R a b k ∧ e = .returned (.tuple #[.complex .f64 a b, .int .i64 k]) ∧ ∃ n, w' = w.drewN n

theorem times_c (x y : Nat) (w : World) : Calls Try.prog 40 #[.float .f64 x, .float .f64 y] w (RetF (FR .mul x y) w) := by
  have hm := fun w => run_fmul (P := Try.prog) w 40 x y
  go_enter Try.func40, Try.ntmps40
  go_wp2
  go_ret
  exact ⟨_, fval_FR _ _ _ _, rfl, _, rfl⟩

theorem bits_c (x : Nat) (w : World) : Calls Try.prog 43 #[.float .f64 x] w fun e w' => e = .returned (.int .u64 (cn x)) ∧ w = w' := by
  have hn := neq_self x
  have h42 := f42
  unfold cn
  cases h : isN x
  all_goals
    rw [h] at hn
    clear h
    go_enter Try.func43, Try.ntmps43
    go_wp2
    go_ret
    exact ⟨rfl, rfl⟩

theorem float_c (x : Int) (w : World) : Calls Try.prog 44 #[.int .u64 x] w fun e w' => e = .returned (.float .f64 (cn x.toNat)) ∧ w = w' := by
  have hn := neq_self x.toNat
  have h45 := f45
  unfold cn
  cases h : isN x.toNat
  all_goals
    rw [h] at hn
    clear h
    go_enter Try.func44, Try.ntmps44
    go_wp2
    go_ret
    exact ⟨rfl, rfl⟩

theorem make_c (x y : Int) (w : World) : Calls Try.prog 12 #[.int .i64 x, .int .i64 y] w fun e w' => e = .returned (.complex .f64 (iword x) (iword y)) ∧ w = w' := by
  go_enter Try.func12, Try.ntmps12
  go_wp2
  go_ret
  exact ⟨rfl, rfl⟩

theorem add_c (a b c d : Nat) (w : World) : Calls Try.prog 14 #[.complex .f64 a b, .complex .f64 c d] w (RetC (fun re im => FR .add a c re ∧ FR .add b d im) w) := by
  have hm := fun w => run_cadd (P := Try.prog) w 23 a b c d
  go_enter Try.func14, Try.ntmps14
  go_wp2
  go_ret
  exact ⟨_, _, ⟨fval_FR _ _ _ _, fval_FR _ _ _ _⟩, rfl, _, rfl⟩

theorem sub_c (a b c d : Nat) (w : World) : Calls Try.prog 15 #[.complex .f64 a b, .complex .f64 c d] w (RetC (fun re im => FR .sub a c re ∧ FR .sub b d im) w) := by
  have hm := fun w => run_csub (P := Try.prog) w 23 a b c d
  go_enter Try.func15, Try.ntmps15
  go_wp2
  go_ret
  exact ⟨_, _, ⟨fval_FR _ _ _ _, fval_FR _ _ _ _⟩, rfl, _, rfl⟩

theorem conj_c (a b : Nat) (w : World) : Calls Try.prog 17 #[.complex .f64 a b] w fun e w' => e = .returned (.complex .f64 a (ng b)) ∧ w = w' := by
  have hm := fun w => run_fneg (P := Try.prog) w b
  go_enter Try.func17, Try.ntmps17
  go_wp2
  go_ret
  exact ⟨rfl, rfl⟩

/-- what a product may be. -/
def MulR (a b c d re im : Nat) : Prop := ∃ p q r s, FR .mul a c p ∧ FR .mul b d q ∧ FR .sub p q re ∧ FR .mul a d r ∧ FR .mul b c s ∧ FR .add r s im

theorem mul_c (a b c d : Nat) (w : World) : Calls Try.prog 16 #[.complex .f64 a b, .complex .f64 c d] w (RetC (MulR a b c d) w) := by
  have hs := fun x y w => run_fsub (P := Try.prog) w 40 x y
  have ha := fun x y w => run_fadd (P := Try.prog) w 40 x y
  go_enter Try.func16, Try.ntmps16
  go_wp2_with (go_at_call 40; refine (times_c _ _ _).mono ?_; rintro e w' ⟨r, hr, rfl, n, rfl⟩)
  go_ret
  exact ⟨_, _, ⟨_, _, _, _, ‹FR .mul a c _›, ‹FR .mul b d _›, fval_FR _ _ _ _, ‹FR .mul a d _›, ‹FR .mul b c _›, fval_FR _ _ _ _⟩, rfl, _, rfl⟩

theorem cbits_c (a b : Nat) (w : World) : Calls Try.prog 37 #[.complex .f64 a b] w fun e w' => e = .returned (.tuple #[.int .u64 (cn a), .int .u64 (cn b)]) ∧ w = w' := by
  go_enter Try.func37, Try.ntmps37
  go_wp2_with (go_at_call 43; refine (bits_c _ _).mono ?_; rintro e w' ⟨rfl, rfl⟩)
  go_ret2
  exact ⟨rfl, rfl⟩

theorem of_c (a b : Int) (w : World) : Calls Try.prog 39 #[.int .u64 a, .int .u64 b] w fun e w' => e = .returned (.complex .f64 (cn a.toNat) (cn b.toNat)) ∧ w = w' := by
  go_enter Try.func39, Try.ntmps39
  go_wp2_with (go_at_call 44; refine (float_c _ _).mono ?_; rintro e w' ⟨rfl, rfl⟩)
  go_ret
  exact ⟨rfl, rfl⟩

/-- are two complex numbers told alike? -/
def sameB (a b c d : Nat) : Bool := decide (cn a = cn c) && decide (cn b = cn d)
theorem int_beq (x y : Nat) : ((x : Int) == (y : Int)) = decide (x = y) := by
  by_cases h : x = y
  · subst h; simp
  · rw [decide_eq_false h, beq_eq_false_iff_ne]; omega

theorem same_c (a b c d : Nat) (w : World) : Calls Try.prog 20 #[.complex .f64 a b, .complex .f64 c d] w fun e w' => e = .returned (.bool (sameB a b c d)) ∧ w = w' := by
  unfold sameB
  have h1 := int_beq (cn a) (cn c)
  have h2 := int_beq (cn b) (cn d)
  cases e1 : decide (cn a = cn c) <;> cases e2 : decide (cn b = cn d)
  all_goals
    rw [e1] at h1
    rw [e2] at h2
    clear e1 e2
    go_enter Try.func20, Try.ntmps20
    go_wp2_with (go_at_call 37; refine (cbits_c _ _ _).mono ?_; rintro e w' ⟨rfl, rfl⟩)
    go_ret
    exact ⟨rfl, rfl⟩

/-- what the square of a length may be. -/
def NormR (a b r : Nat) : Prop := ∃ p q, FR .mul a a p ∧ FR .mul b b q ∧ FR .add p q r
theorem norm_c (a b : Nat) (w : World) : Calls Try.prog 35 #[.complex .f64 a b] w (RetF (NormR a b) w) := by
  have ha := fun x y w => run_fadd (P := Try.prog) w 40 x y
  go_enter Try.func35, Try.ntmps35
  go_wp2_with (go_at_call 40; refine (times_c _ _ _).mono ?_; rintro e w' ⟨r, hr, rfl, n, rfl⟩)
  go_ret
  exact ⟨_, ⟨_, _, ‹FR .mul a a _›, ‹FR .mul b b _›, fval_FR _ _ _ _⟩, rfl, _, rfl⟩

/-- is it nought? -/
def isZ (x : Nat) : Bool := FloatKind.f64.format.order x 0 == some .eq
/-- what a quotient may be. -/
def DivR (a b c d re im : Nat) (k : Int) : Prop := ∃ n, NormR c d n ∧
  ((isZ n = true ∧ re = 0 ∧ im = 0 ∧ k = 10) ∨ (isZ n = false ∧ k = 0 ∧ ∃ p q r s x y, FR .mul a c p ∧ FR .mul b d q ∧ FR .add p q x ∧ FR .mul b c r ∧ FR .mul a d s ∧ FR .sub r s y ∧ FR .quo x n re ∧ FR .quo y n im))

theorem div_c (a b c d : Nat) (w : World) : Calls Try.prog 21 #[.complex .f64 a b, .complex .f64 c d] w (RetCE (DivR a b c d) w) := by
  have hs := fun x y w => run_fsub (P := Try.prog) w 40 x y
  have ha := fun x y w => run_fadd (P := Try.prog) w 40 x y
  have hq := fun x y w => run_fquo (P := Try.prog) w 40 x y
  go_enter Try.func21, Try.ntmps21
  go_wp2_with (first | (go_at_call 35; refine (norm_c _ _ _).mono ?_; rintro e w' ⟨N, hN, rfl, m, rfl⟩) | (go_at_call 40; refine (times_c _ _ _).mono ?_; rintro e w' ⟨r, hr, rfl, n, rfl⟩))
  all_goals go_ret2
  · exact ⟨_, _, _, ⟨_, ‹NormR c d _›, Or.inl ⟨by assumption, rfl, rfl, rfl⟩⟩, rfl, _, rfl⟩
  · exact ⟨_, _, _, ⟨_, ‹NormR c d _›, Or.inr ⟨by assumption, rfl, _, _, _, _, _, _, ‹FR .mul a c _›, ‹FR .mul b d _›, fval_FR _ _ _ _, ‹FR .mul b c _›, ‹FR .mul a d _›, fval_FR _ _ _ _, fval_FR _ _ _ _, fval_FR _ _ _ _⟩⟩, rfl, _, rfl⟩

def LO : Nat := 14105274032924393472
def HI : Nat := 4881901996069617664
/-- is a float not below -2^61? is it below 2^61? -/
def geLo (f : Nat) : Bool := FloatKind.f64.format.order f 14105274032924393472 == some .gt || FloatKind.f64.format.order f 14105274032924393472 == some .eq
def ltHi (f : Nat) : Bool := FloatKind.f64.format.order f 4881901996069617664 == some .lt
/-- the whole number of a float. -/
def pv (f : Nat) : Int := if geLo f && ltHi f then (floatToIntVal .f64 f .i64).getD 0 else 0
def pe (f : Nat) : Int := if geLo f && ltHi f then 0 else 9

theorem conv_run {f : Nat} (h1 : geLo f = true) (h2 : ltHi f = true) (w : World) : (convert 40 3 (.float .f64 f)).run Try.prog w = .ok (.int .i64 (pv f)) w := by
  have e1 : D.read 14105274032924393472 = .number true (2 ^ 52) 9 := by decide
  have e2 : D.read 4881901996069617664 = .number false (2 ^ 52) 9 := by decide
  have g2 : (D.read f).order (.number false (2 ^ 52) 9) = some .lt := by
    have := h2; unfold ltHi at this; rw [beq_iff_eq] at this; rw [← e2]; exact this
  have g1 : (D.read f).order (.number true (2 ^ 52) 9) = some .gt ∨ (D.read f).order (.number true (2 ^ 52) 9) = some .eq := by
    have := h1; unfold geLo at this; rw [Bool.or_eq_true, beq_iff_eq, beq_iff_eq] at this; rw [← e1]; exact this
  obtain ⟨n, hn, a, b⟩ := range_toInt g2 g1
  have hv : floatToIntVal .f64 f .i64 = some n := by
    unfold floatToIntVal
    have : (FloatKind.f64.decode f).toInt .zero = some n := hn
    rw [this]
    dsimp only
    rw [if_pos]
    have m1 : IntKind.i64.min = -9223372036854775808 := by decide
    have m2 : IntKind.i64.max = 9223372036854775807 := by decide
    rw [m1, m2]; omega
  have : pv f = n := by unfold pv; rw [h1, h2, hv]; rfl
  rw [this]
  exact run_convert_float_int w 40 3 .f64 .i64 f n (by kernel_rfl) (by kernel_rfl) hv

theorem part_re (a b : Nat) (w : World) : Calls Try.prog 18 #[.complex .f64 a b, .bool false] w fun e w' => e = .returned (.tuple #[.int .i64 (pv a), .int .i64 (pe a)]) ∧ w = w' := by
  cases h1 : geLo a
  · have hp : pv a = 0 := by unfold pv; rw [h1]; rfl
    have he : pe a = 9 := by unfold pe; rw [h1]; rfl
    rw [hp, he]
    unfold geLo at h1
    clear hp he
    go_enter Try.func18, Try.ntmps18
    go_wp2
    go_ret2
    exact ⟨rfl, rfl⟩
  · cases h2 : ltHi a
    · have hp : pv a = 0 := by unfold pv; rw [h1, h2]; rfl
      have he : pe a = 9 := by unfold pe; rw [h1, h2]; rfl
      rw [hp, he]
      unfold geLo at h1
      unfold ltHi at h2
      clear hp he
      go_enter Try.func18, Try.ntmps18
      go_wp2
      go_ret2
      exact ⟨rfl, rfl⟩
    · have hc := conv_run h1 h2
      have he : pe a = 0 := by unfold pe; rw [h1, h2]; rfl
      rw [he]
      unfold geLo at h1
      unfold ltHi at h2
      clear he
      go_enter Try.func18, Try.ntmps18
      go_wp2
      go_ret2
      exact ⟨rfl, rfl⟩

theorem part_im (a b : Nat) (w : World) : Calls Try.prog 18 #[.complex .f64 a b, .bool true] w fun e w' => e = .returned (.tuple #[.int .i64 (pv b), .int .i64 (pe b)]) ∧ w = w' := by
  cases h1 : geLo b
  · have hp : pv b = 0 := by unfold pv; rw [h1]; rfl
    have he : pe b = 9 := by unfold pe; rw [h1]; rfl
    rw [hp, he]
    unfold geLo at h1
    clear hp he
    go_enter Try.func18, Try.ntmps18
    go_wp2
    go_ret2
    exact ⟨rfl, rfl⟩
  · cases h2 : ltHi b
    · have hp : pv b = 0 := by unfold pv; rw [h1, h2]; rfl
      have he : pe b = 9 := by unfold pe; rw [h1, h2]; rfl
      rw [hp, he]
      unfold geLo at h1
      unfold ltHi at h2
      clear hp he
      go_enter Try.func18, Try.ntmps18
      go_wp2
      go_ret2
      exact ⟨rfl, rfl⟩
    · have hc := conv_run h1 h2
      have he : pe b = 0 := by unfold pe; rw [h1, h2]; rfl
      rw [he]
      unfold geLo at h1
      unfold ltHi at h2
      clear he
      go_enter Try.func18, Try.ntmps18
      go_wp2
      go_ret2
      exact ⟨rfl, rfl⟩
end Go.Proofs.Ythadgapgnlghfaa
