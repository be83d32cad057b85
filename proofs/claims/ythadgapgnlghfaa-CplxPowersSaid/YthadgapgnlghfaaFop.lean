/- Floats in a walk: what the operations on two floats come to, a NaN's bits by the tape; two floats alike (the same bits, or both no number) give results alike. For every float. -/
import Derived.Test.YthadgapgnlghfaaDbl
import Derived.Test.YthadgapgnlghfaaChecked
import Derived.WalkKit
import Derived.WalkLawsBesides
import Derived.Deep.Draws
import Derived.Laws.Externs
import Derived.Below
import Derived.Outline
namespace Go.Proofs.Ythadgapgnlghfaa
open Go Go.RowKit Go.Proofs.Ythadgapgnlghfaa.Dbl

/-- what a float operation gives in a world. -/
def fval (op : BinOp) (x y : Nat) (w : World) : Nat := match floatBits op .f64 x y with
  | some r => r
  | none => (Question.nanBits .f64 x y).cut (w.tape w.drawn (Question.nanBits .f64 x y))
/-- how many answers it draws. -/
def fdr (op : BinOp) (x y : Nat) : Nat := match floatBits op .f64 x y with
  | some _ => 0
  | none => 1

/-- what a float operation may give. -/
def FR (op : BinOp) (x y r : Nat) : Prop := match floatBits op .f64 x y with
  | some v => r = v
  | none => isN r = true

theorem cut_nan (x y t : Nat) : isN ((Question.nanBits .f64 x y).cut t) = true := by
  have hc : (Question.nanBits .f64 x y).cut t = (t % 2) * 2 ^ 63 + 0x7ff0000000000000 + 1 + (t / 2) % (2 ^ 52 - 1) := rfl
  rw [hc]
  generalize hu : t % 2 = u
  generalize hv : (t / 2) % (2 ^ 52 - 1) = v
  have hu2 : u < 2 := by omega
  have hv2 : v < 2 ^ 52 - 1 := by omega
  unfold isN Ieee.Format.read
  have hbn : D.binade = 2 ^ 52 := by decide
  have hsw : D.signWeight = 2 ^ 63 := by decide
  have hir : D.infRung = 2047 * 2 ^ 52 := by decide
  rw [hsw, hbn, hir]
  dsimp only
  have h1 : (u * 2 ^ 63 + 0x7ff0000000000000 + 1 + v) % 2 ^ 63 = 0x7ff0000000000000 + 1 + v := by omega
  rw [h1, if_neg (by omega), if_neg (by omega), if_neg (by omega)]
  rfl

theorem fval_FR (op : BinOp) (x y : Nat) (w : World) : FR op x y (fval op x y w) := by
  unfold FR fval
  cases h : floatBits op .f64 x y with
  | some v => rfl
  | none => exact cut_nan _ _ _

/-- two floats are alike. -/
def AL (x y : Nat) : Prop := x = y ∨ (isN x = true ∧ isN y = true)
theorem AL.refl (x : Nat) : AL x x := Or.inl rfl
theorem AL.symm {x y : Nat} (h : AL x y) : AL y x := h.elim (fun e => Or.inl e.symm) (fun e => Or.inr ⟨e.2, e.1⟩)
theorem AL.trans {x y z : Nat} (h : AL x y) (h' : AL y z) : AL x z := by
  rcases h with rfl | ⟨a, b⟩
  · exact h'
  · rcases h' with rfl | ⟨_, d⟩
    · exact Or.inr ⟨a, b⟩
    · exact Or.inr ⟨a, d⟩

theorem fb_nan {op : BinOp} {x y : Nat} (h : isN x = true ∨ isN y = true) : floatBits op .f64 x y = none := by
  have hx : isN x = true → ((FloatKind.f64.format).read x).isNaN = true := id
  have hy : isN y = true → ((FloatKind.f64.format).read y).isNaN = true := id
  unfold floatBits
  cases op <;> simp only
  case add =>
    unfold Ieee.Format.add
    rcases h with h | h
    · rw [sum_nan_left (hx h)]; rfl
    · rw [sum_nan_right (hy h)]; rfl
  case sub =>
    unfold Ieee.Format.sub
    rcases h with h | h
    · rw [sum_nan_left (hx h)]; rfl
    · rw [sum_nan_right (by rw [opposite_isNaN]; exact hy h)]; rfl
  case mul =>
    unfold Ieee.Format.mul
    rcases h with h | h
    · rw [product_nan_left (hx h)]; rfl
    · rw [product_nan_right (hy h)]; rfl
  case quo =>
    unfold Ieee.Format.div
    rcases h with h | h
    · rw [quotient_nan_left (hx h)]; rfl
    · rw [quotient_nan_right (hy h)]; rfl

theorem FR.alike {op : BinOp} {x y r x' y' r' : Nat} (hx : AL x x') (hy : AL y y') (h : FR op x y r) (h' : FR op x' y' r') : AL r r' := by
  unfold FR at h h'
  rcases hx with rfl | ⟨a, b⟩
  · rcases hy with rfl | ⟨c, d⟩
    · cases e : floatBits op .f64 x y with
      | some v => rw [e] at h h'; simp only at h h'; exact Or.inl (h.trans h'.symm)
      | none => rw [e] at h h'; exact Or.inr ⟨h, h'⟩
    · rw [fb_nan (Or.inr c)] at h; rw [fb_nan (Or.inr d)] at h'; exact Or.inr ⟨h, h'⟩
  · rw [fb_nan (Or.inl a)] at h; rw [fb_nan (Or.inl b)] at h'; exact Or.inr ⟨h, h'⟩

/-- the one NaN that is told. -/
def Q : Nat := 9221120237041090561
theorem isN_Q : isN Q = true := by decide
/-- a float's bits, as they are told. -/
def cn (x : Nat) : Nat := if isN x = true then Q else x
theorem AL.cn {x y : Nat} (h : AL x y) : cn x = cn y := by
  unfold Ythadgapgnlghfaa.cn
  rcases h with rfl | ⟨a, b⟩
  · rfl
  · rw [if_pos a, if_pos b]
theorem al_of_cn {x y : Nat} (h : cn x = cn y) : AL x y := by
  unfold Ythadgapgnlghfaa.cn at h
  by_cases a : isN x = true
  · rw [if_pos a] at h
    by_cases b : isN y = true
    · exact Or.inr ⟨a, b⟩
    · rw [if_neg b] at h; exact absurd (h ▸ isN_Q) b
  · rw [if_neg a] at h
    by_cases b : isN y = true
    · rw [if_pos b] at h; exact absurd (h ▸ isN_Q) a
    · rw [if_neg b] at h; exact Or.inl h
theorem al_cn (x : Nat) : AL (cn x) x := by
  unfold Ythadgapgnlghfaa.cn
  by_cases a : isN x = true
  · rw [if_pos a]; exact Or.inr ⟨isN_Q, a⟩
  · rw [if_neg a]; exact Or.inl rfl
theorem cn_cn (x : Nat) : cn (cn x) = cn x := (al_cn x).cn

theorem neq_self (x : Nat) : (FloatKind.f64.format.order x x != some .eq) = isN x := by
  have e : FloatKind.f64.format.order x x = if isN x then none else some .eq := order_self x
  rw [e]
  cases isN x <;> rfl

section
variable {P : Program} (w : World)
theorem run_floatArith_any (op : BinOp) (h : op = .add ∨ op = .sub ∨ op = .mul ∨ op = .quo) (x y : Nat) : (Op.floatArith op .f64 x y).run P w = .ok (.float .f64 (fval op x y w)) (w.drewN (fdr op x y)) := by
  unfold fval fdr
  cases e : floatBits op .f64 x y with
  | some r => rw [run_floatArith w e]; rfl
  | none =>
    unfold floatBits at e
    rcases h with rfl | rfl | rfl | rfl <;> simp only at e <;> simp [Op.floatArith, e, Question.forced, World.drewN]
theorem run_fop (op : BinOp) (h : op = .add ∨ op = .sub ∨ op = .mul ∨ op = .quo) (t : TypeId) (x y : Nat) : (binOp op t (.float .f64 x) (.float .f64 y)).run P w = .ok (.float .f64 (fval op x y w)) (w.drewN (fdr op x y)) := by
  have e : binOp op t (.float .f64 x) (.float .f64 y) = Op.floatArith op .f64 x y := by
    rcases h with rfl | rfl | rfl | rfl <;> rfl
  rw [e]; exact run_floatArith_any w op h x y
theorem run_fadd (t : TypeId) (x y : Nat) : (binOp .add t (.float .f64 x) (.float .f64 y)).run P w = .ok (.float .f64 (fval .add x y w)) (w.drewN (fdr .add x y)) := run_fop w _ (by simp) t x y
theorem run_fsub (t : TypeId) (x y : Nat) : (binOp .sub t (.float .f64 x) (.float .f64 y)).run P w = .ok (.float .f64 (fval .sub x y w)) (w.drewN (fdr .sub x y)) := run_fop w _ (by simp) t x y
theorem run_fmul (t : TypeId) (x y : Nat) : (binOp .mul t (.float .f64 x) (.float .f64 y)).run P w = .ok (.float .f64 (fval .mul x y w)) (w.drewN (fdr .mul x y)) := run_fop w _ (by simp) t x y
theorem run_fquo (t : TypeId) (x y : Nat) : (binOp .quo t (.float .f64 x) (.float .f64 y)).run P w = .ok (.float .f64 (fval .quo x y w)) (w.drewN (fdr .quo x y)) := run_fop w _ (by simp) t x y
theorem run_carith_any (op : BinOp) (h : op = .add ∨ op = .sub) (x y : Nat) : (Op.Complex.arith op .f64 x y).run P w = .ok (fval op x y w) (w.drewN (fdr op x y)) := by
  simp [Op.Complex.arith, run_floatArith_any w op (by rcases h with rfl | rfl <;> simp)]
theorem run_cop (op : BinOp) (h : op = .add ∨ op = .sub) (t : TypeId) (a b c d : Nat) : (binOp op t (.complex .f64 a b) (.complex .f64 c d)).run P w =
    .ok (.complex .f64 (fval op a c w) (fval op b d (w.drewN (fdr op a c)))) (w.drewN (fdr op a c + fdr op b d)) := by
  rcases h with rfl | rfl <;> simp [binOp, Op.complexOp, run_carith_any]
theorem run_cadd (t : TypeId) (a b c d : Nat) : (binOp .add t (.complex .f64 a b) (.complex .f64 c d)).run P w =
    .ok (.complex .f64 (fval .add a c w) (fval .add b d (w.drewN (fdr .add a c)))) (w.drewN (fdr .add a c + fdr .add b d)) := run_cop w _ (by simp) t a b c d
theorem run_csub (t : TypeId) (a b c d : Nat) : (binOp .sub t (.complex .f64 a b) (.complex .f64 c d)).run P w =
    .ok (.complex .f64 (fval .sub a c w) (fval .sub b d (w.drewN (fdr .sub a c)))) (w.drewN (fdr .sub a c + fdr .sub b d)) := run_cop w _ (by simp) t a b c d
/-- the negative's bits. -/
def ng (x : Nat) : Nat := Op.negFloat .f64 x
theorem run_fneg (x : Nat) : (Op.unary .neg (.float .f64 x)).run P w = .ok (.float .f64 (ng x)) w := rfl
end

section
variable {P : Program} (w : World) (a : Addr) (m : Mode)
@[go_sem] theorem run_store_float (k : FloatKind) (b : Nat) : (store a (.float k b) m).run P w = stored P w a (.float k b) m := run_store P w a _ m rfl
@[go_sem] theorem run_store_complex (k : FloatKind) (b c : Nat) : (store a (.complex k b c) m).run P w = stored P w a (.complex k b c) m := run_store P w a _ m rfl
end

theorem f42 (x : Nat) (w : World) : (callFunc 42 #[.float .f64 x]).run Try.prog w = .ok (.value (.int .u64 x)) w := by
  rw [run_callFunc_extern (e := Extern.MathFloatBits.float64bits) Try.func42 (by kernel_rfl) (by kernel_rfl) (by kernel_rfl) (by kernel_rfl)]
  rfl
theorem f45 (x : Int) (w : World) : (callFunc 45 #[.int .u64 x]).run Try.prog w = .ok (.value (.float .f64 x.toNat)) w := by
  rw [run_callFunc_extern (e := Extern.MathFloatBits.float64frombits) Try.func45 (by kernel_rfl) (by kernel_rfl) (by kernel_rfl) (by kernel_rfl)]
  rfl
end Go.Proofs.Ythadgapgnlghfaa
