/- The contracts of the reference's functions on complex numbers. For every number. -/
import Derived.Test.YthadgapgnlghfaaPf
namespace Go.Proofs.Ythadgapgnlghfaa
open Go Go.RowKit Go.Proofs.Ythadgapgnlghfaa.Dbl

/-- the reference's number. -/
abbrev zv (a b : Nat) : Value := .agg #[.float .f64 a, .float .f64 b]
def RetZ (R : Nat → Nat → Prop) (w : World) (e : Ending) (w' : World) : Prop := ∃ a b, R a b ∧ e = .returned (zv a b) ∧ Below w.heap.size w w'
def RetZE (R : Nat → Nat → Int → Prop) (w : World) (e : Ending) (w' : World) : Prop := ∃ a b k, R a b k ∧ e = .returned (.tuple #[zv a b, .int .i64 k]) ∧ Below w.heap.size w w'
def RetFB (R : Nat → Prop) (w : World) (e : Ending) (w' : World) : Prop := ∃ r, R r ∧ e = .returned (.float .f64 r) ∧ Below w.heap.size w w'

theorem told_c (x : Nat) (w : World) : Calls Try.prog 34 #[.float .f64 x] w fun e w' => e = .returned (.int .u64 (cn x)) ∧ w = w' := by
  have hn := neq_self x
  have h42 := f42
  unfold cn
  cases h : isN x
  all_goals
    rw [h] at hn
    clear h
    go_enter Try.func34, Try.ntmps34
    go_wp2
    go_ret
    exact ⟨rfl, rfl⟩

theorem bcell {W w1 : World} (hb : Below W.heap.size W w1) : (∀ b o, b < W.heap.size → w1.cell? ⟨b, o, none⟩ = W.cell? ⟨b, o, none⟩) ∧ (∀ b o, b < W.heap.size → w1.frozen? ⟨b, o, none⟩ = W.frozen? ⟨b, o, none⟩) :=
  ⟨fun b o h => hb.cell (p := ⟨b, o, none⟩) h, fun b o h => hb.frozen (p := ⟨b, o, none⟩) h⟩

theorem rof_c (a b : Int) (w : World) : Calls Try.prog 41 #[.int .u64 a, .int .u64 b] w fun e w' => e = .returned (zv a.toNat b.toNat) ∧ Below w.heap.size w w' := by
  have h45 := f45
  go_enter Try.func41, Try.ntmps41
  go_wp2
  refine bodyPost_ret (v := zv a.toNat b.toNat) (by simp [results, Try.results41, go_sem]) rfl ⟨rfl, ?_⟩
  repeat (first | exact Below.refl _ _ | refine below_drewN ?_ _ | refine Below.setCell ?_ (by simp; try omega) _ | refine Below.alloc ?_ (by simp; try omega) _)

theorem radd_c (a b c d : Nat) (w : World) : Calls Try.prog 31 #[zv a b, zv c d] w (RetZ (fun re im => FR .add a c re ∧ FR .add b d im) w) := by
  have hm := fun x y w => run_fadd (P := Try.prog) w 40 x y
  go_enter Try.func31, Try.ntmps31
  go_wp2
  refine bodyPost_ret (by simp [results, Try.results31, go_sem]; exact ⟨rfl, rfl⟩) rfl ⟨_, _, ⟨fval_FR _ _ _ _, fval_FR _ _ _ _⟩, rfl, ?_⟩
  repeat (first | exact Below.refl _ _ | refine below_drewN ?_ _ | refine Below.setCell ?_ (by simp; try omega) _ | refine Below.alloc ?_ (by simp; try omega) _)

theorem rsub_c (a b c d : Nat) (w : World) : Calls Try.prog 32 #[zv a b, zv c d] w (RetZ (fun re im => FR .sub a c re ∧ FR .sub b d im) w) := by
  have hm := fun x y w => run_fsub (P := Try.prog) w 40 x y
  go_enter Try.func32, Try.ntmps32
  go_wp2
  refine bodyPost_ret (by simp [results, Try.results32, go_sem]; exact ⟨rfl, rfl⟩) rfl ⟨_, _, ⟨fval_FR _ _ _ _, fval_FR _ _ _ _⟩, rfl, ?_⟩
  repeat (first | exact Below.refl _ _ | refine below_drewN ?_ _ | refine Below.setCell ?_ (by simp; try omega) _ | refine Below.alloc ?_ (by simp; try omega) _)

theorem rmul_c (a b c d : Nat) (w : World) : Calls Try.prog 33 #[zv a b, zv c d] w (RetZ (MulR a b c d) w) := by
  have hm := fun x y w => run_fmul (P := Try.prog) w 40 x y
  have hs := fun x y w => run_fsub (P := Try.prog) w 40 x y
  have ha := fun x y w => run_fadd (P := Try.prog) w 40 x y
  go_enter Try.func33, Try.ntmps33
  go_wp2
  refine bodyPost_ret (by simp [results, Try.results33, go_sem]; exact ⟨rfl, rfl⟩) rfl ⟨_, _, ⟨_, _, _, _, fval_FR _ _ _ _, fval_FR _ _ _ _, fval_FR _ _ _ _, fval_FR _ _ _ _, fval_FR _ _ _ _, fval_FR _ _ _ _⟩, rfl, ?_⟩
  repeat (first | exact Below.refl _ _ | refine below_drewN ?_ _ | refine Below.setCell ?_ (by simp; try omega) _ | refine Below.alloc ?_ (by simp; try omega) _)

theorem rnorm_c (a b : Nat) (w : World) : Calls Try.prog 36 #[zv a b] w (RetFB (NormR a b) w) := by
  have hm := fun x y w => run_fmul (P := Try.prog) w 40 x y
  have ha := fun x y w => run_fadd (P := Try.prog) w 40 x y
  go_enter Try.func36, Try.ntmps36
  go_wp2
  go_ret
  refine ⟨_, ⟨_, _, fval_FR _ _ _ _, fval_FR _ _ _ _, fval_FR _ _ _ _⟩, rfl, ?_⟩
  repeat (first | exact Below.refl _ _ | refine below_drewN ?_ _ | refine Below.setCell ?_ (by simp; try omega) _ | refine Below.alloc ?_ (by simp; try omega) _)

theorem rdiv_c (a b c d : Nat) (w : World) : Calls Try.prog 23 #[zv a b, zv c d] w (RetZE (DivR a b c d) w) := by
  have hm := fun x y w => run_fmul (P := Try.prog) w 40 x y
  have hs := fun x y w => run_fsub (P := Try.prog) w 40 x y
  have ha := fun x y w => run_fadd (P := Try.prog) w 40 x y
  have hq := fun x y w => run_fquo (P := Try.prog) w 40 x y
  go_enter Try.func23, Try.ntmps23
  go_wp2_with (go_at_call 36; refine (rnorm_c _ _ _).mono ?_; rintro e w1 ⟨N, hN, rfl, hb⟩; obtain ⟨hc, hf⟩ := bcell hb; have hz := hb.size; simp at hz)
  · refine bodyPost_ret (v := .tuple #[zv 0 0, .int .i64 10]) (by simp [results, Try.results23, go_sem, hc]) rfl ⟨_, _, _, ⟨N, hN, Or.inl ⟨by assumption, rfl, rfl, rfl⟩⟩, rfl, ?_⟩
    refine Below.setCell (Below.setCell (Below.trans ?_ (hb.mono (by simp; omega))) (by simp; try omega) _) (by simp; try omega) _
    repeat (first | exact Below.refl _ _ | refine below_drewN ?_ _ | refine Below.setCell ?_ (by simp; try omega) _ | refine Below.alloc ?_ (by simp; try omega) _)
  · refine bodyPost_ret (by simp [results, Try.results23, go_sem, hc]; exact ⟨rfl, rfl⟩) rfl ⟨_, _, _, ⟨N, hN, Or.inr ⟨by assumption, rfl, _, _, _, _, _, _, fval_FR _ _ _ _, fval_FR _ _ _ _, fval_FR _ _ _ _, fval_FR _ _ _ _, fval_FR _ _ _ _, fval_FR _ _ _ _, fval_FR _ _ _ _, fval_FR _ _ _ _⟩⟩, rfl, ?_⟩
    refine Below.setCell (Below.setCell (below_drewN (Below.trans ?_ (hb.mono (by simp; omega))) _) (by simp; try omega) _) (by simp; try omega) _
    repeat (first | exact Below.refl _ _ | refine below_drewN ?_ _ | refine Below.setCell ?_ (by simp; try omega) _ | refine Below.alloc ?_ (by simp; try omega) _)
end Go.Proofs.Ythadgapgnlghfaa
