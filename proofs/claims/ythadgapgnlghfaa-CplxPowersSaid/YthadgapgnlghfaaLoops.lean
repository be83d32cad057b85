/- The contracts of Power, of the program and of the reference. For every number and every exponent. -/
import Derived.Test.YthadgapgnlghfaaLf
namespace Go.Proofs.Ythadgapgnlghfaa
open Go Go.RowKit Go.Proofs.Ythadgapgnlghfaa.Dbl

/-- what a power may be. -/
def PowR (a b : Nat) : Nat → Nat → Nat → Prop
  | 0, re, im => re = 4607182418800017408 ∧ im = 0
  | k + 1, re, im => ∃ p q, PowR a b k p q ∧ MulR p q a b re im

theorem power_out (a b : Nat) (n : Int) (w : World) (h : n < 0 ∨ 64 < n) : Calls Try.prog 27 #[.complex .f64 a b, .int .i64 n] w fun e w' => e = .returned (.tuple #[.complex .f64 0 0, .int .i64 1]) ∧ w = w' := by
  by_cases h0 : n < 0
  · clear h
    go_enter Try.func27, Try.ntmps27
    go_wp2
    go_ret2
    exact ⟨rfl, rfl⟩
  · have h1 : 64 < n := by omega
    clear h
    go_enter Try.func27, Try.ntmps27
    go_wp2
    go_ret2
    exact ⟨rfl, rfl⟩

theorem power_in (a b N : Nat) (w : World) (hN : N ≤ 64) : Calls Try.prog 27 #[.complex .f64 a b, .int .i64 N] w (RetCE (fun re im k => k = 0 ∧ PowR a b N re im) w) := by
  go_enter Try.func27, Try.ntmps27
  go_wp2_with fail
  go_loopw [6, 14] (fun p i wr => ∃ (k re im m : Nat), k ≤ N ∧ i = .int .i64 k ∧ p = .complex .f64 re im ∧ PowR a b k re im ∧ wr = w.drewN m) (fun _ i _ => N - (intOf i).toNat)
  case atStart => exact ⟨0, _, _, 0, Nat.zero_le _, rfl, rfl, ⟨rfl, rfl⟩, rfl⟩
  case round =>
    obtain ⟨k, re, im, m, hk, rfl, rfl, hp, rfl⟩ := hrel
    by_cases hlt : k < N
    · go_wp2_with (go_at_call 16; refine (mul_c _ _ _ _ _).mono ?_; rintro e w' ⟨x, y, hxy, rfl, n, rfl⟩)
      go_roundw
      case rel => exact ⟨k + 1, _, _, _, by omega, by go_num, rfl, ⟨re, im, hp, hxy⟩, rfl⟩
      case measure => simp [intOf]; omega
    · have hkN : k = N := by omega
      subst hkN
      go_wp2_with fail
      go_ret2
      exact ⟨_, _, _, ⟨rfl, hp⟩, rfl, _, rfl⟩

theorem rpower_out (a b : Nat) (n : Int) (w : World) (h : n < 0 ∨ 64 < n) : Calls Try.prog 28 #[zv a b, .int .i64 n] w fun e w' => e = .returned (.tuple #[zv 0 0, .int .i64 1]) ∧ Below w.heap.size w w' := by
  by_cases h0 : n < 0
  · clear h
    go_enter Try.func28, Try.ntmps28
    go_wp2
    refine bodyPost_ret (v := .tuple #[zv 0 0, .int .i64 1]) (by simp [results, Try.results28, go_sem]) rfl ⟨rfl, ?_⟩
    repeat (first | exact Below.refl _ _ | refine Below.setCell ?_ (by simp; try omega) _ | refine Below.alloc ?_ (by simp; try omega) _)
  · have h1 : 64 < n := by omega
    clear h
    go_enter Try.func28, Try.ntmps28
    go_wp2
    refine bodyPost_ret (v := .tuple #[zv 0 0, .int .i64 1]) (by simp [results, Try.results28, go_sem]) rfl ⟨rfl, ?_⟩
    repeat (first | exact Below.refl _ _ | refine Below.setCell ?_ (by simp; try omega) _ | refine Below.alloc ?_ (by simp; try omega) _)

/-- the memory of the reference's Power: the base, the result's place, what there is. -/
structure PowMem (w : World) (a b : Nat) (wr : World) (re im : Nat) : Prop where
  z0 : wr.cell? ⟨w.heap.size, 0, none⟩ = some (.float .f64 a)
  z1 : wr.cell? ⟨w.heap.size, 1, none⟩ = some (.float .f64 b)
  r0 : wr.cell? ⟨w.heap.size + 1, 0, none⟩ = some (.float .f64 0)
  r1 : wr.cell? ⟨w.heap.size + 1, 1, none⟩ = some (.float .f64 0)
  p0 : wr.cell? ⟨w.heap.size + 1 + 1, 0, none⟩ = some (.float .f64 re)
  p1 : wr.cell? ⟨w.heap.size + 1 + 1, 1, none⟩ = some (.float .f64 im)
  fr : ∀ o, wr.frozen? ⟨w.heap.size + 1, o, none⟩ = false
  fp : ∀ o, wr.frozen? ⟨w.heap.size + 1 + 1, o, none⟩ = false
  sz : w.heap.size + 1 + 1 < wr.heap.size
  bel : Below w.heap.size w wr

theorem PowMem.next {w wr w1 : World} {a b re im x y : Nat} (h : PowMem w a b wr re im) (hb : Below wr.heap.size wr w1) :
    PowMem w a b ((w1.setCell ⟨w.heap.size + 1 + 1, 0, none⟩ (.float .f64 x)).setCell ⟨w.heap.size + 1 + 1, 1, none⟩ (.float .f64 y)) x y := by
  obtain ⟨hc, hf⟩ := bcell hb
  have hs := h.sz
  have hz := hb.size
  have o : ∀ (n i : Nat) (v : Value), n ≠ w.heap.size + 1 + 1 → n < wr.heap.size → wr.cell? ⟨n, i, none⟩ = some v →
      ((w1.setCell ⟨w.heap.size + 1 + 1, 0, none⟩ (.float .f64 x)).setCell ⟨w.heap.size + 1 + 1, 1, none⟩ (.float .f64 y)).cell? ⟨n, i, none⟩ = some v := by
    intro n i v hn hl hv
    rw [World.cell?_setCell_other _ _ _ _ (by intro e; cases e; exact hn rfl), World.cell?_setCell_other _ _ _ _ (by intro e; cases e; exact hn rfl), hc _ _ hl, hv]
  have q0 : w1.cell? ⟨w.heap.size + 1 + 1, 0, none⟩ = some (.float .f64 re) := by rw [hc _ _ hs, h.p0]
  have q1 : w1.cell? ⟨w.heap.size + 1 + 1, 1, none⟩ = some (.float .f64 im) := by rw [hc _ _ hs, h.p1]
  refine ⟨o _ _ _ (by omega) (by omega) h.z0, o _ _ _ (by omega) (by omega) h.z1, o _ _ _ (by omega) (by omega) h.r0, o _ _ _ (by omega) (by omega) h.r1, ?_, ?_, ?_, ?_, ?_, ?_⟩
  · rw [World.cell?_setCell_other _ _ _ _ (by intro e; cases e), World.cell?_setCell_same _ _ _ q0]
  · rw [World.cell?_setCell_same (u := .float .f64 im)]
    rw [World.cell?_setCell_other _ _ _ _ (by intro e; cases e), q1]
  · intro i; simp only [World.frozen?_setCell]; rw [hf _ _ (by omega)]; exact h.fr i
  · intro i; simp only [World.frozen?_setCell]; rw [hf _ _ (by omega)]; exact h.fp i
  · simp; omega
  · exact Below.setCell (Below.setCell (h.bel.trans (hb.mono (by omega))) (by simp; omega) _) (by simp; omega) _

theorem PowMem.start (w : World) (a b : Nat) : PowMem w a b (((w.alloc (.cells #[.float .f64 a, .float .f64 b] 42)).alloc (.cells #[.float .f64 0, .float .f64 0] 42)).alloc (.cells #[.float .f64 4607182418800017408, .float .f64 0] 42)) 4607182418800017408 0 := by
  refine ⟨by simp [go_sem], by simp [go_sem], by simp [go_sem], by simp [go_sem], by simp [go_sem], by simp [go_sem], ?_, ?_, by simp, ?_⟩
  · intro o; simp [go_sem]
  · intro o; simp [go_sem]
  · exact (((Below.refl _ _).alloc (Nat.le_refl _) _).alloc (by simp) _).alloc (by simp; omega) _

theorem PowMem.start0 (w : World) (a b : Nat) : PowMem w a b (((w.alloc (.cells #[.float .f64 a, .float .f64 b] 42)).alloc (.cells #[.float .f64 0, .float .f64 0] 42)).alloc (.cells #[.float .f64 0, .float .f64 0] 42)) 0 0 := by
  refine ⟨by simp [go_sem], by simp [go_sem], by simp [go_sem], by simp [go_sem], by simp [go_sem], by simp [go_sem], ?_, ?_, by simp, ?_⟩
  · intro o; simp [go_sem]
  · intro o; simp [go_sem]
  · exact (((Below.refl _ _).alloc (Nat.le_refl _) _).alloc (by simp) _).alloc (by simp; omega) _

theorem rpower_in (a b N : Nat) (w : World) (hN : N ≤ 64) : Calls Try.prog 28 #[zv a b, .int .i64 N] w (RetZE (fun re im k => k = 0 ∧ PowR a b N re im) w) := by
  go_enter Try.func28, Try.ntmps28
  go_wp2_with fail
  go_loopw [7] (fun i wr => ∃ (k re im : Nat), k ≤ N ∧ i = .int .i64 k ∧ PowR a b k re im ∧ PowMem w a b wr re im) (fun i _ => N - (intOf i).toNat)
  case atStart =>
    exact ⟨0, _, _, Nat.zero_le _, rfl, ⟨rfl, rfl⟩, PowMem.start w a b⟩
  case round =>
    obtain ⟨k, re, im, hk, rfl, hp, hm⟩ := hrel
    obtain ⟨z0, z1, r0, r1, p0, p1, fr, fp, sz, bel⟩ := id hm
    by_cases hlt : k < N
    · go_wp2_with (go_at_call 33; refine (rmul_c _ _ _ _ _).mono ?_; rintro e w1 ⟨x, y, hxy, rfl, hb⟩; obtain ⟨hc, hf⟩ := bcell hb; have hz := hb.size)
      go_roundw
      case rel => exact ⟨k + 1, _, _, by omega, by go_num, ⟨re, im, hp, hxy⟩, hm.next hb⟩
      case measure => simp [intOf]; omega
    · have hkN : k = N := by omega
      subst hkN
      go_wp2_with fail
      refine bodyPost_ret (v := .tuple #[zv re im, .int .i64 0]) (by simp [results, Try.results28, go_sem, r0, r1]) rfl ⟨_, _, _, ⟨rfl, hp⟩, rfl, ?_⟩
      exact Below.setCell (Below.setCell bel (by simp) _) (by simp) _
end Go.Proofs.Ythadgapgnlghfaa
