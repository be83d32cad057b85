/- The contract of the program's Fold. For every list of numbers. -/
import Derived.Test.YthadgapgnlghfaaLoops
import Derived.ScopeJumps
import Derived.WalkMore
import Derived.Deep.RegionHeld3
namespace Go.Proofs.Ythadgapgnlghfaa
open Go Go.RowKit Go.Proofs.Ythadgapgnlghfaa.Dbl

/-- what a polynomial's value may be. -/
def FoldR (a b : Nat) : List (Nat × Nat) → Nat → Nat → Prop
  | [], re, im => re = 0 ∧ im = 0
  | x :: l, re, im => ∃ p q r s, FoldR a b l p q ∧ MulR p q a b r s ∧ FR .add r x.1 re ∧ FR .add s x.2 im

theorem FoldR.drop {a b : Nat} {l : List (Nat × Nat)} {k : Nat} (h : k < l.length) {p q r s re im : Nat} (h1 : FoldR a b (l.drop (k + 1)) p q) (h2 : MulR p q a b r s) (h3 : FR .add r (l[k]).1 re) (h4 : FR .add s (l[k]).2 im) :
    FoldR a b (l.drop k) re im := by
  rw [List.drop_eq_getElem_cons h]
  exact ⟨p, q, r, s, h1, h2, h3, h4⟩

set_option maxRecDepth 100000 in
set_option maxHeartbeats 2000000 in
theorem fold_c (l : List (Nat × Nat)) (n cap B off : Nat) (a b : Nat) (w : World) (hn : l.length = n) (hm : n ≤ 1000) (h0 : 0 < n)
    (hc : ∀ i (h : i < l.length), w.cell? ⟨B, off + i, none⟩ = some (.complex .f64 (l[i]).1 (l[i]).2)) :
    Calls Try.prog 29 #[.slice (some ⟨B, off, none⟩) n cap, .complex .f64 a b] w (RetC (FoldR a b l) w) := by
  have H := Lib.hid hc
  have HN := Lib.hid hn
  clear hc hn
  obtain ⟨n, rfl⟩ : ∃ m, n = m + 1 := ⟨n - 1, by omega⟩
  go_enter Try.func29, Try.ntmps29
  go_wp2_with fail
  refine wp_scope_jumps 0 (fun a' w' => ∃ (m j re im : Nat) (u7 u8 u9 u10 u11 u12 u13 u14 u15 u16 u17 u18 u19 u20 u21 : Value), w' = w.drewN m ∧ a' = { tmps := #[.slice (some ⟨B, off, none⟩) (n + 1) cap, .complex .f64 a b, undef, undef, .complex .f64 0 0, .complex .f64 re im, .int .i64 j, u7, u8, u9, u10, u11, u12, u13, u14, u15, u16, u17, u18, u19, u20, u21], defers := [] } ∧ FoldR a b (l.drop j) re im ∧ j ≤ n) (fun a' _ => (intOf (a'.tmps.getD 6 undef)).toNat) rfl ?_ ?_
  · have hi0 : (0 : Int) ≤ (n : Int) := by omega
    have hi1 : (n : Int) < (n : Int) + 1 := by omega
    have hcell : w.cell? ⟨B, off + n, none⟩ = some (.complex .f64 (l[n]'(by rw [HN.out]; omega)).1 (l[n]'(by rw [HN.out]; omega)).2) := H.out n _
    go_wp2_with fail
    go_step3
    go_wp2_with fail
    go_region_held3 (fun w' => w'.cell? ⟨B, off + n, none⟩ = some (.complex .f64 (l[n]'(by rw [HN.out]; omega)).1 (l[n]'(by rw [HN.out]; omega)).2)) (go_keep)
      (first | (go_at_call 16; refine (mul_c _ _ _ _ _).mono ?_; rintro e w' ⟨x, y, hxy, rfl, k, rfl⟩) | (go_at_call 14; refine (add_c _ _ _ _ _).mono ?_; rintro e w' ⟨r, s, hrs, rfl, k2, rfl⟩))
    go_wp2_with fail
    go_step3
    refine ⟨rfl, _, n, r, s, _, _, _, _, _, _, _, _, _, _, _, _, _, _, _, rfl, rfl, ?_, Nat.le_refl _⟩
    have hl : n < l.length := by rw [HN.out]; omega
    refine FoldR.drop hl (p := 0) (q := 0) ?_ hxy hrs.1 hrs.2
    rw [List.drop_of_length_le (by rw [HN.out]; omega)]
    exact ⟨rfl, rfl⟩
  · rintro a' w' ⟨m, j, re, im, u7, u8, u9, u10, u11, u12, u13, u14, u15, u16, u17, u18, u19, u20, u21, rfl, rfl, hF, hj⟩
    by_cases hz : j = 0
    · subst hz
      go_wp2_with fail
      simp only [Exit.jump]
      go_ret
      exact ⟨_, _, hF, rfl, _, rfl⟩
    · obtain ⟨j, rfl⟩ : ∃ i, j = i + 1 := ⟨j - 1, by omega⟩
      have hcell : w.cell? ⟨B, off + j, none⟩ = some (.complex .f64 (l[j]'(by rw [HN.out]; omega)).1 (l[j]'(by rw [HN.out]; omega)).2) := H.out j _
      have hi0 : (0 : Int) ≤ (j : Int) := by omega
      have hi1 : (j : Int) < (n : Int) + 1 := by omega
      have HZ := Lib.hid hz
      clear hz
      go_wp2_with fail
      go_region_held3 (fun w' => w'.cell? ⟨B, off + j, none⟩ = some (.complex .f64 (l[j]'(by rw [HN.out]; omega)).1 (l[j]'(by rw [HN.out]; omega)).2)) (go_keep)
        (first | (go_at_call 16; refine (mul_c _ _ _ _ _).mono ?_; rintro e w' ⟨x, y, hxy, rfl, k, rfl⟩) | (go_at_call 14; refine (add_c _ _ _ _ _).mono ?_; rintro e w' ⟨r, s, hrs, rfl, k2, rfl⟩))
      go_wp2_with fail
      go_step3
      refine ⟨rfl, ⟨_, j, r, s, _, _, _, _, _, _, _, _, _, _, _, _, _, _, _, rfl, rfl, ?_, by omega⟩, ?_⟩
      · have hl : j < l.length := by rw [HN.out]; omega
        exact FoldR.drop hl hF hxy hrs.1 hrs.2
      · simp [intOf]

theorem fold_nil (p : Option Addr) (cap a b : Nat) (w : World) : Calls Try.prog 29 #[.slice p 0 cap, .complex .f64 a b] w (RetC (FoldR a b []) w) := by
  go_enter Try.func29, Try.ntmps29
  go_wp2_with fail
  go_step3
  go_wp2_with fail
  go_step3
  go_wp2_with fail
  rw [Exit.noGoto_ret]
  go_ret
  exact ⟨_, _, ⟨rfl, rfl⟩, rfl, 0, rfl⟩
end Go.Proofs.Ythadgapgnlghfaa
