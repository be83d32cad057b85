/- The contracts of the laws' own small functions, of the reference's Part and Same, and of Power. For every number. -/
import Derived.Test.YthadgapgnlghfaaRf
import Derived.Deep.LoopGhost
import Derived.Deep.QuietTactic
import Derived.BigQuiet
namespace Go.Proofs.Ythadgapgnlghfaa
open Go Go.RowKit Go.Proofs.Ythadgapgnlghfaa.Dbl

theorem num_c (a : Int) (w : World) : Calls Try.prog 19 #[.int .i64 a] w fun e w' => e = .returned (.int .i64 a) ∧ w = w' := by
  go_enter Try.func19, Try.ntmps19
  go_wp2
  go_ret
  exact ⟨rfl, rfl⟩

/-- the law's bits. -/
abbrev zu (a b : Int) : Value := .agg #[.int .u64 a, .int .u64 b]

theorem lof_c (a b : Int) (w : World) : Calls Try.prog 22 #[zu a b] w fun e w' => e = .returned (.complex .f64 (cn a.toNat) (cn b.toNat)) ∧ Below w.heap.size w w' := by
  go_enter Try.func22, Try.ntmps22
  go_wp2_with (go_at_call 39; refine (of_c _ _ _).mono ?_; rintro e w' ⟨rfl, rfl⟩)
  go_ret
  exact ⟨rfl, (Below.refl _ _).alloc (Nat.le_refl _) _⟩

theorem lis_c (a b : Int) (w : World) : Calls Try.prog 24 #[zu a b] w fun e w' => e = .returned (zv a.toNat b.toNat) ∧ Below w.heap.size w w' := by
  go_enter Try.func24, Try.ntmps24
  go_wp2_with (go_at_call 41; refine (rof_c _ _ _).mono ?_; rintro e w1 ⟨rfl, hb⟩; obtain ⟨hc, hf⟩ := bcell hb; have hz := hb.size; simp at hz)
  refine bodyPost_ret (v := zv a.toNat b.toNat) (by simp [results, Try.results24, go_sem, hc]) rfl ⟨rfl, ?_⟩
  refine Below.setCell (Below.setCell (Below.trans ?_ (hb.mono (by simp; omega))) (by simp; try omega) _) (by simp; try omega) _
  repeat (first | exact Below.refl _ _ | refine Below.alloc ?_ (by simp; try omega) _)

theorem rof_x (a b : Int) (w : World) : Calls Try.prog 41 #[.int .u64 a, .int .u64 b] w fun e w' => e = .returned (zv a.toNat b.toNat) ∧ w.alloc (.cells #[.float .f64 a.toNat, .float .f64 b.toNat] 42) = w' := by
  have h45 := f45
  go_enter Try.func41, Try.ntmps41
  go_wp2
  exact bodyPost_ret (v := zv a.toNat b.toNat) (by simp [results, Try.results41, go_sem]) rfl ⟨rfl, rfl⟩
/-- the very world behind it. -/
theorem lis_x (a b : Int) (w : World) : Calls Try.prog 24 #[zu a b] w fun e w' => e = .returned (zv a.toNat b.toNat) ∧
    ((w.alloc (.cells #[.int .u64 a, .int .u64 b] 36)).alloc (.cells #[.float .f64 a.toNat, .float .f64 b.toNat] 42)).alloc (.cells #[.float .f64 a.toNat, .float .f64 b.toNat] 42) = w' := by
  go_enter Try.func24, Try.ntmps24
  go_wp2_with (go_at_call 41; refine (rof_x _ _ _).mono ?_; rintro e w' ⟨rfl, rfl⟩)
  refine bodyPost_ret (v := zv a.toNat b.toNat) (by simp [results, Try.results24, go_sem]) rfl ⟨rfl, ?_⟩
  simp [go_sem]

theorem like_c (a b c d : Nat) (w : World) : Calls Try.prog 26 #[.complex .f64 a b, zv c d] w fun e w' => e = .returned (.bool (sameB a b c d)) ∧ Below w.heap.size w w' := by
  unfold sameB
  have h1 := int_beq (cn a) (cn c)
  have h2 := int_beq (cn b) (cn d)
  cases e1 : decide (cn a = cn c) <;> cases e2 : decide (cn b = cn d)
  all_goals
    rw [e1] at h1
    rw [e2] at h2
    clear e1 e2
    go_enter Try.func26, Try.ntmps26
    go_wp2_with (first | (go_at_call 37; refine (cbits_c _ _ _).mono ?_; rintro e w' ⟨rfl, rfl⟩) | (go_at_call 34; refine (told_c _ _).mono ?_; rintro e w' ⟨rfl, rfl⟩))
    go_ret
    exact ⟨rfl, (Below.refl _ _).alloc (Nat.le_refl _) _⟩

theorem quiet_left {P : Program} {f : FuncId} {args : Array Value} {w : World} {n : Nat} {v : Value}
    (h : Calls P f args (w.drewN n) fun e w' => e = .returned v ∧ w.drewN n = w') : Calls P f args (w.drewN n) fun e w'' => e = .returned v ∧ ∃ m, w'' = w.drewN m :=
  h.mono fun _ _ ⟨he, hm⟩ => ⟨he, n, hm.symm⟩

theorem rsame_c (a b c d : Nat) (w : World) : Calls Try.prog 38 #[zv a b, zv c d] w fun e w' => e = .returned (.bool (sameB a b c d)) ∧ Below w.heap.size w w' := by
  unfold sameB
  have h1 := int_beq (cn a) (cn c)
  have h2 := int_beq (cn b) (cn d)
  cases e1 : decide (cn a = cn c) <;> cases e2 : decide (cn b = cn d)
  all_goals
    rw [e1] at h1
    rw [e2] at h2
    clear e1 e2
    go_enter Try.func38, Try.ntmps38
    go_wp2_with fail
    go_quiet ((go_at_call 34; exact quiet_left (told_c _ _)))
    go_wp2_with fail
    go_ret
    exact ⟨rfl, below_drewN (((Below.refl _ _).alloc (Nat.le_refl _) _).alloc (by simp) _) _⟩

theorem part_true (a b : Nat) (re im : Int) (w : World) (h1 : pe a = 0) (h2 : pe b = 0) (h3 : pv a = re) (h4 : pv b = im) :
    Calls Try.prog 13 #[.complex .f64 a b, .int .i64 re, .int .i64 im] w fun e w' => e = .returned (.bool true) ∧ w = w' := by
  subst h3 h4
  have p1 := fun w => part_re a b w
  have p2 := fun w => part_im a b w
  rw [h1] at p1
  rw [h2] at p2
  clear h1 h2
  have H1 := Lib.hid p1
  have H2 := Lib.hid p2
  clear p1 p2
  go_enter Try.func13, Try.ntmps13
  go_wp2_with (first | (go_at_call 18; (first | (with_reducible refine (H1.out _).mono ?_) | (with_reducible refine (H2.out _).mono ?_)); rintro e w' ⟨rfl, rfl⟩) | (go_at_call 19; refine (num_c _ _).mono ?_; rintro e w' ⟨rfl, rfl⟩))
  go_ret
  exact ⟨rfl, rfl⟩

theorem order_some {f c : Nat} (h : isN f = false) (hc : isN c = false) : ∃ o, FloatKind.f64.format.order f c = some o := by
  have h' : (D.read f).isNaN = false := h
  have hc' : (D.read c).isNaN = false := hc
  show ∃ o, (D.read f).order (D.read c) = some o
  generalize D.read f = x at h'
  generalize D.read c = y at hc'
  cases x <;> cases y <;> first | exact ⟨_, rfl⟩ | (simp [Ieee.Datum.isNaN] at h' hc'; done)

theorem rpart_c (f : Nat) (w : World) : Calls Try.prog 25 #[.float .f64 f] w fun e w' => e = .returned (.tuple #[.int .i64 (pv f), .int .i64 (pe f)]) ∧ w = w' := by
  have hn := neq_self f
  cases h : isN f
  · rw [h] at hn
    obtain ⟨o1, h1⟩ := order_some (c := 14105274032924393472) h (by decide)
    obtain ⟨o2, h2⟩ := order_some (c := 4881901996069617664) h (by decide)
    clear h
    by_cases c1 : o1 = .lt
    · have hp : pv f = 0 := by unfold pv geLo; rw [h1, c1]; rfl
      have he : pe f = 9 := by unfold pe geLo; rw [h1, c1]; rfl
      rw [hp, he]
      have b1 : (FloatKind.f64.format.order f 14105274032924393472 == some .lt) = true := by rw [h1, c1]; rfl
      clear hp he c1 h1 h2
      go_enter Try.func25, Try.ntmps25
      go_wp2
      go_ret2
      exact ⟨rfl, rfl⟩
    · have g1 : geLo f = true := by unfold geLo; rw [h1]; cases o1 <;> first | rfl | exact absurd rfl c1
      have b1 : (FloatKind.f64.format.order f 14105274032924393472 == some .lt) = false := by rw [h1]; cases o1 <;> first | rfl | exact absurd rfl c1
      by_cases c2 : o2 = .lt
      · have g2 : ltHi f = true := by unfold ltHi; rw [h2, c2]; rfl
        have b2 : (FloatKind.f64.format.order f 4881901996069617664 == some .gt || FloatKind.f64.format.order f 4881901996069617664 == some .eq) = false := by rw [h2, c2]; rfl
        have hc := conv_run g1 g2
        have he : pe f = 0 := by unfold pe; rw [g1, g2]; rfl
        rw [he]
        clear he c1 c2 h1 h2 g1 g2
        go_enter Try.func25, Try.ntmps25
        go_wp2
        go_ret2
        exact ⟨rfl, rfl⟩
      · have g2 : ltHi f = false := by unfold ltHi; rw [h2]; cases o2 <;> first | rfl | exact absurd rfl c2
        have b2 : (FloatKind.f64.format.order f 4881901996069617664 == some .gt || FloatKind.f64.format.order f 4881901996069617664 == some .eq) = true := by rw [h2]; cases o2 <;> first | rfl | exact absurd rfl c2
        have hp : pv f = 0 := by unfold pv; rw [g1, g2]; rfl
        have he : pe f = 9 := by unfold pe; rw [g1, g2]; rfl
        rw [hp, he]
        clear hp he c1 c2 h1 h2 g1 g2
        go_enter Try.func25, Try.ntmps25
        go_wp2
        go_ret2
        exact ⟨rfl, rfl⟩
  · rw [h] at hn
    have h1 : FloatKind.f64.format.order f 14105274032924393472 = none := order_nan_left h _
    have hp : pv f = 0 := by unfold pv geLo; rw [h1]; rfl
    have he : pe f = 9 := by unfold pe geLo; rw [h1]; rfl
    rw [hp, he]
    clear hp he h1 h
    go_enter Try.func25, Try.ntmps25
    go_wp2
    go_ret2
    exact ⟨rfl, rfl⟩
end Go.Proofs.Ythadgapgnlghfaa
