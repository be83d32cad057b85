/- CplxSums: sums, differences, products of any two, the mirrored one, and the square of the length, are the document's. The walk, for every bits. -/
import Derived.Test.YthadgapgnlghfaaMakes
import Derived.Deep.Cut
namespace Go.Proofs.Ythadgapgnlghfaa
open Go Go.RowKit Go.Proofs.Ythadgapgnlghfaa.Dbl

theorem like_sum {op : BinOp} {a b c d x y x' y' : Nat} (h : FR op (cn a) (cn c) x ∧ FR op (cn b) (cn d) y) (h' : FR op a c x' ∧ FR op b d y') (w : World) :
    Calls Try.prog 26 #[.complex .f64 x y, zv x' y'] w fun e w' => e = .returned (.bool true) ∧ Below w.heap.size w w' :=
  like_al _ _ _ _ w (FR.alike (al_cn a) (al_cn c) h.1 h'.1) (FR.alike (al_cn b) (al_cn d) h.2 h'.2)
theorem MulR.alike {a b c d a' b' c' d' re im re' im' : Nat} (ha : AL a a') (hb : AL b b') (hc : AL c c') (hd : AL d d') (h : MulR a b c d re im) (h' : MulR a' b' c' d' re' im') : AL re re' ∧ AL im im' := by
  obtain ⟨p, q, r, s, h1, h2, h3, h4, h5, h6⟩ := h
  obtain ⟨p', q', r', s', g1, g2, g3, g4, g5, g6⟩ := h'
  exact ⟨FR.alike (FR.alike ha hc h1 g1) (FR.alike hb hd h2 g2) h3 g3, FR.alike (FR.alike ha hd h4 g4) (FR.alike hb hc h5 g5) h6 g6⟩
theorem like_mul {a b c d x y x' y' : Nat} (h : MulR (cn a) (cn b) (cn c) (cn d) x y) (h' : MulR a b c d x' y') (w : World) :
    Calls Try.prog 26 #[.complex .f64 x y, zv x' y'] w fun e w' => e = .returned (.bool true) ∧ Below w.heap.size w w' :=
  like_al _ _ _ _ w (MulR.alike (al_cn a) (al_cn b) (al_cn c) (al_cn d) h h').1 (MulR.alike (al_cn a) (al_cn b) (al_cn c) (al_cn d) h h').2
theorem like_conj (a b : Nat) (w : World) : Calls Try.prog 26 #[.complex .f64 (cn a) (ng (cn b)), zv a (ng b)] w fun e w' => e = .returned (.bool true) ∧ Below w.heap.size w w' :=
  like_al _ _ _ _ w (al_cn a) (al_cn b).ng
theorem NormR.alike {a b a' b' r r' : Nat} (ha : AL a a') (hb : AL b b') (h : NormR a b r) (h' : NormR a' b' r') : AL r r' := by
  obtain ⟨p, q, h1, h2, h3⟩ := h
  obtain ⟨p', q', g1, g2, g3⟩ := h'
  exact FR.alike (FR.alike ha ha h1 g1) (FR.alike hb hb h2 g2) h3 g3

/-- the document's two numbers lie in memory. -/
abbrev PQ (w : World) (P R : Nat) (a b c d : Nat) (w' : World) : Prop :=
  w'.cell? ⟨P, 0, none⟩ = some (.float .f64 a) ∧ w'.cell? ⟨P, 1, none⟩ = some (.float .f64 b) ∧ w'.cell? ⟨R, 0, none⟩ = some (.float .f64 c) ∧ w'.cell? ⟨R, 1, none⟩ = some (.float .f64 d) ∧ P < w'.heap.size ∧ R < w'.heap.size ∧ Below w.heap.size w w'

theorem PQ.keep {w wc w1 : World} {P R a b c d : Nat} (h : PQ w P R a b c d wc) (hb : Below wc.heap.size wc w1) : PQ w P R a b c d w1 := by
  obtain ⟨h0, h1, h2, h3, h4, h5, h6⟩ := h
  obtain ⟨hc, _⟩ := bcell hb
  have hs := hb.size
  have hs6 := h6.size
  exact ⟨by rw [hc _ _ (by omega)]; exact h0, by rw [hc _ _ (by omega)]; exact h1, by rw [hc _ _ (by omega)]; exact h2, by rw [hc _ _ (by omega)]; exact h3, by omega, by omega, h6.trans (hb.mono hs6)⟩
theorem PQ.drewN {w wc : World} {P R a b c d : Nat} (h : PQ w P R a b c d wc) (n : Nat) : PQ w P R a b c d (wc.drewN n) :=
  h.keep (below_drewN (Below.refl _ _) n)
theorem PQ.drew {w wc : World} {P R a b c d : Nat} (h : PQ w P R a b c d wc) : PQ w P R a b c d wc.drew := h.drewN 1

set_option maxRecDepth 100000 in
set_option maxHeartbeats 40000000 in
theorem sums_walk (a b c d : Int) (w : World) : Calls Try.prog 7 #[zu a b, zu c d] w fun e w' => e = .returned (.bool true) ∧ Below w.heap.size w w' := by
  have hs0 := S4.start w (.int .u64 a) (.int .u64 b) (.int .u64 c) (.int .u64 d) 36 36
  have HS := Lib.hid hs0
  clear hs0
  go_enter Try.func7, Try.ntmps7
  go_wp2_with fail
  go_region_held3 (fun w' => w'.cell? ⟨w.heap.size, 0, none⟩ = some (.int .u64 a) ∧ w'.cell? ⟨w.heap.size, 1, none⟩ = some (.int .u64 b) ∧ w'.cell? ⟨w.heap.size + 1, 0, none⟩ = some (.int .u64 c) ∧ w'.cell? ⟨w.heap.size + 1, 1, none⟩ = some (.int .u64 d) ∧ w.heap.size + 1 < w'.heap.size ∧ Below w.heap.size w w')
    (first | exact S4.drewN HS.out 1 | exact S4.keep (by assumption) (by assumption))
    (first | (go_at_call 22; refine (lof_c _ _ _).mono ?_; rintro e w1 ⟨rfl, hb⟩))
  have hS : S4 w (.int .u64 a) (.int .u64 b) (.int .u64 c) (.int .u64 d) w1 := by assumption
  clear HS hb
  have HS := Lib.hid hS
  have hsz0 : w.heap.size + 1 < w1.heap.size := hS.2.2.2.2.1
  clear hS
  go_wp2_with fail
  go_cut [7, 8] from 9 (fun p q wc => ∃ P R, p = .pointer (some ⟨P, 0, none⟩) ∧ q = .pointer (some ⟨R, 0, none⟩) ∧ PQ w P R a.toNat b.toNat c.toNat d.toNat wc)
  case first =>
    go_region_held3 (fun w' => w'.cell? ⟨w.heap.size, 0, none⟩ = some (.int .u64 a) ∧ w'.cell? ⟨w.heap.size, 1, none⟩ = some (.int .u64 b) ∧ w'.cell? ⟨w.heap.size + 1, 0, none⟩ = some (.int .u64 c) ∧ w'.cell? ⟨w.heap.size + 1, 1, none⟩ = some (.int .u64 d) ∧ w.heap.size + 1 < w'.heap.size ∧ Below w.heap.size w w')
      (repeat (first | with_reducible exact HS.out | with_reducible refine S4.drew ?_ | with_reducible refine S4.alloc ?_ _))
      (first | (go_at_call 24; refine (lis_x _ _ _).mono ?_; rintro e w' ⟨rfl, rfl⟩))
    all_goals
      go_wp2_with fail
      go_meet
      case rel => exact ⟨_, _, rfl, rfl, by simp [go_sem], by simp [go_sem], by simp [go_sem], by simp [go_sem], by simp <;> omega, by simp <;> omega, (show S4 w (.int .u64 a) (.int .u64 b) (.int .u64 c) (.int .u64 d) _ from by assumption).2.2.2.2.2⟩
  case rest =>
    obtain ⟨P, R, rfl, rfl, hpq⟩ := hcut
    have HP := Lib.hid hpq
    clear hpq HS hb
    generalize a.toNat = A at *
    generalize b.toNat = B at *
    generalize c.toNat = C at *
    generalize d.toNat = D at *
    have hng := fun x w => run_fneg (P := Try.prog) w x
    go_wp2_with fail
    go_region_held3 (fun w' => w'.cell? ⟨P, 0, none⟩ = some (.float .f64 A) ∧ w'.cell? ⟨P, 1, none⟩ = some (.float .f64 B) ∧ w'.cell? ⟨R, 0, none⟩ = some (.float .f64 C) ∧ w'.cell? ⟨R, 1, none⟩ = some (.float .f64 D) ∧ P < w'.heap.size ∧ R < w'.heap.size ∧ Below w.heap.size w w')
      (first | assumption | with_reducible exact PQ.drew HP.out | with_reducible exact PQ.drewN HP.out _ | with_reducible exact PQ.drewN (by assumption) _ | with_reducible exact PQ.keep (by assumption) (by assumption))
      (first
        | (go_at_call 14; refine (add_c _ _ _ _ _).mono ?_; rintro e w' ⟨x, y, hv, rfl, k, rfl⟩)
        | (go_at_call 15; refine (sub_c _ _ _ _ _).mono ?_; rintro e w' ⟨x, y, hv, rfl, k, rfl⟩)
        | (go_at_call 16; refine (mul_c _ _ _ _ _).mono ?_; rintro e w' ⟨x, y, hv, rfl, k, rfl⟩)
        | (go_at_call 31; refine (radd_c _ _ _ _ _).mono ?_; rintro e w1 ⟨x, y, hv, rfl, hb⟩)
        | (go_at_call 32; refine (rsub_c _ _ _ _ _).mono ?_; rintro e w1 ⟨x, y, hv, rfl, hb⟩)
        | (go_at_call 33; refine (rmul_c _ _ _ _ _).mono ?_; rintro e w1 ⟨x, y, hv, rfl, hb⟩)
        | (go_at_call 26; (first | (with_reducible refine (like_sum ‹FR .add (cn A) (cn C) _ ∧ FR .add (cn B) (cn D) _› ‹FR .add A C _ ∧ FR .add B D _› _).mono ?_) | (with_reducible refine (like_sum ‹FR .sub (cn A) (cn C) _ ∧ FR .sub (cn B) (cn D) _› ‹FR .sub A C _ ∧ FR .sub B D _› _).mono ?_) | (with_reducible refine (like_mul ‹MulR (cn A) (cn B) (cn C) (cn D) _ _› ‹MulR A B C D _ _› _).mono ?_)); rintro e w1 ⟨rfl, hb⟩))
    have hP : PQ w P R A B C D w1 := by assumption
    clear HP hb hv
    have HP := Lib.hid hP
    clear hP
    go_wp2_with fail
    go_region_held3 (fun w' => w'.cell? ⟨P, 0, none⟩ = some (.float .f64 A) ∧ w'.cell? ⟨P, 1, none⟩ = some (.float .f64 B) ∧ w'.cell? ⟨R, 0, none⟩ = some (.float .f64 C) ∧ w'.cell? ⟨R, 1, none⟩ = some (.float .f64 D) ∧ P < w'.heap.size ∧ R < w'.heap.size ∧ Below w.heap.size w w')
      (first | assumption | with_reducible exact PQ.drew HP.out | with_reducible exact PQ.drewN HP.out _ | with_reducible exact PQ.drewN (by assumption) _ | with_reducible exact PQ.keep (by assumption) (by assumption))
      (first
        | (go_at_call 17; refine (conj_c _ _ _).mono ?_; rintro e w' ⟨rfl, rfl⟩)
        | (go_at_call 26; (with_reducible refine (like_conj _ _ _).mono ?_); rintro e w1 ⟨rfl, hb⟩)
        | (go_at_call 35; refine (norm_c _ _ _).mono ?_; rintro e w' ⟨N, hN, rfl, k, rfl⟩)
        | (go_at_call 34; refine (told_c _ _).mono ?_; rintro e w' ⟨rfl, rfl⟩)
        | (go_at_call 36; refine (rnorm_c _ _ _).mono ?_; rintro e w1 ⟨N, hN, rfl, hb⟩; have hcn := (NormR.alike (al_cn A) (al_cn B) ‹NormR (cn A) (cn B) _› ‹NormR A B _›).cn)
        | (go_at_call 11; refine (live_c _).mono ?_; rintro e w1 ⟨rfl, hb⟩))
    have hP : PQ w P R A B C D w1 := by assumption
    go_wp2_with fail
    go_ret
    exact ⟨rfl, hP.2.2.2.2.2.2⟩
end Go.Proofs.Ythadgapgnlghfaa
