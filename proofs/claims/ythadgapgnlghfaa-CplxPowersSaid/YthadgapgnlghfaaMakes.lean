/- CplxMakes: numbers of any two integers, of any bits, their bits, and whether two are the same, are the document's. The walk, for every bits. -/
import Derived.Test.YthadgapgnlghfaaRules
namespace Go.Proofs.Ythadgapgnlghfaa
open Go Go.RowKit Go.Proofs.Ythadgapgnlghfaa.Dbl

theorem like_al (a b c d : Nat) (w : World) (h : AL a c) (h' : AL b d) : Calls Try.prog 26 #[.complex .f64 a b, zv c d] w fun e w' => e = .returned (.bool true) ∧ Below w.heap.size w w' :=
  like_k a b c d w (by unfold sameB; rw [h.cn, h'.cn]; simp)
theorem like_make (x y : Int) (w : World) : Calls Try.prog 26 #[.complex .f64 (iword x) (iword y), zv (floatOfInt .f64 x) (floatOfInt .f64 y)] w fun e w' => e = .returned (.bool true) ∧ Below w.heap.size w w' :=
  like_al _ _ _ _ w (AL.refl _) (AL.refl _)
theorem like_cn (a b : Nat) (w : World) : Calls Try.prog 26 #[.complex .f64 (cn a) (cn b), zv a b] w fun e w' => e = .returned (.bool true) ∧ Below w.heap.size w w' :=
  like_al _ _ _ _ w (al_cn a) (al_cn b)
theorem rsame_cn (a b c d : Nat) (w : World) : Calls Try.prog 38 #[zv a b, zv c d] w fun e w' => e = .returned (.bool (sameB (cn a) (cn b) (cn c) (cn d))) ∧ Below w.heap.size w w' := by
  have := rsame_c a b c d w
  rw [show sameB a b c d = sameB (cn a) (cn b) (cn c) (cn d) by unfold sameB; rw [cn_cn, cn_cn, cn_cn, cn_cn]] at this
  exact this

theorem field0 (p q : Nat) (w : World) : (Instr.field 42 (zv p q) 0).run Try.prog w = .ok (.float .f64 p) w := by kernel_rfl
theorem field1 (p q : Nat) (w : World) : (Instr.field 42 (zv p q) 1).run Try.prog w = .ok (.float .f64 q) w := by kernel_rfl

set_option maxRecDepth 100000 in
set_option maxHeartbeats 4000000 in
theorem makes_walk (x y a b c d : Int) (w : World) : Calls Try.prog 8 #[.int .i64 x, .int .i64 y, zu a b, zu c d] w fun e w' => e = .returned (.bool true) ∧ Below w.heap.size w w' := by
  have hf0 := field0
  have hf1 := field1
  have hs0 := S4.start w (.int .u64 a) (.int .u64 b) (.int .u64 c) (.int .u64 d) 36 36
  have HS := Lib.hid hs0
  clear hs0
  go_enter Try.func8, Try.ntmps8
  go_upto_region 3 with (first
    | (go_at_call 12; refine (make_c _ _ _).mono ?_; rintro e w' ⟨rfl, rfl⟩)
    | (go_at_call 22; refine (lof_c _ _ _).mono ?_; rintro e w1 ⟨rfl, hb⟩)
    | (go_at_call 37; refine (cbits_c _ _ _).mono ?_; rintro e w' ⟨rfl, rfl⟩))
  have HS1 := Lib.hid (S4.keep HS.out hb)
  clear hb HS
  have f1 := cn_cn a.toNat
  have f2 := cn_cn b.toNat
  have f3 := sameB_self (iword x) (iword y)
  go_region_held3 (fun w' => w'.cell? ⟨w.heap.size, 0, none⟩ = some (.int .u64 a) ∧ w'.cell? ⟨w.heap.size, 1, none⟩ = some (.int .u64 b) ∧ w'.cell? ⟨w.heap.size + 1, 0, none⟩ = some (.int .u64 c) ∧ w'.cell? ⟨w.heap.size + 1, 1, none⟩ = some (.int .u64 d) ∧ w.heap.size + 1 < w'.heap.size ∧ Below w.heap.size w w')
    (first | assumption | exact S4.drew HS1.out | exact S4.keep (by assumption) (by assumption))
    (first
      | (go_at_call 22; refine (lof_c _ _ _).mono ?_; rintro e w1 ⟨rfl, hb⟩)
      | (go_at_call 24; refine (lis_c _ _ _).mono ?_; rintro e w1 ⟨rfl, hb⟩)
      | (go_at_call 26; (first | (with_reducible refine (like_make _ _ _).mono ?_) | (with_reducible refine (like_cn _ _ _).mono ?_)); rintro e w1 ⟨rfl, hb⟩)
      | (go_at_call 34; refine (told_c _ _).mono ?_; rintro e w' ⟨rfl, rfl⟩)
      | (go_at_call 20; refine (same_c _ _ _ _ _).mono ?_; rintro e w' ⟨rfl, rfl⟩)
      | (go_at_call 38; refine (rsame_cn _ _ _ _ _).mono ?_; rintro e w1 ⟨rfl, hb⟩)
      | (go_at_call 11; refine (live_c _).mono ?_; rintro e w1 ⟨rfl, hb⟩))
  have hS : S4 w (.int .u64 a) (.int .u64 b) (.int .u64 c) (.int .u64 d) w1 := by assumption
  go_wp2_with fail
  go_ret
  exact ⟨rfl, hS.2.2.2.2.2⟩
end Go.Proofs.Ythadgapgnlghfaa
