/- The contract of the reference's Fold. For every list of numbers. -/
import Derived.Test.YthadgapgnlghfaaParts
import Derived.Deep.RegionWith
namespace Go.Proofs.Ythadgapgnlghfaa
open Go Go.RowKit Go.Proofs.Ythadgapgnlghfaa.Dbl

/-- what does not turn in a round of the reference's Fold. -/
abbrev FS (w : World) (a b : Nat) (B o : Nat) (x y : Nat) (w' : World) : Prop :=
  w'.cell? ⟨w.heap.size, 0, none⟩ = some (.float .f64 a) ∧ w'.cell? ⟨w.heap.size, 1, none⟩ = some (.float .f64 b) ∧ w'.cell? ⟨B, o, none⟩ = some (.float .f64 x) ∧ w'.cell? ⟨B, o + 1, none⟩ = some (.float .f64 y) ∧ w.heap.size + 1 + 1 < w'.heap.size ∧ B < w.heap.size
theorem FS.keep {w wc w1 : World} {a b B o x y : Nat} (h : FS w a b B o x y wc) (hb : Below wc.heap.size wc w1) : FS w a b B o x y w1 := by
  obtain ⟨h0, h1, h2, h3, h4, h5⟩ := h
  obtain ⟨hc, _⟩ := bcell hb
  have hs := hb.size
  exact ⟨by rw [hc _ _ (by omega)]; exact h0, by rw [hc _ _ (by omega)]; exact h1, by rw [hc _ _ (by omega)]; exact h2, by rw [hc _ _ (by omega)]; exact h3, by omega, h5⟩
theorem FS.drew {w wc : World} {a b B o x y : Nat} (h : FS w a b B o x y wc) : FS w a b B o x y wc.drew := h.keep (below_drewN (Below.refl _ _) 1)
theorem FS.store {w wc : World} {a b B o x y : Nat} (h : FS w a b B o x y wc) (i : Nat) (v : Value) : FS w a b B o x y (wc.setCell ⟨w.heap.size + 1 + 1, i, none⟩ v) := by
  obtain ⟨h0, h1, h2, h3, h4, h5⟩ := h
  have ne : ∀ n k, n < w.heap.size + 1 + 1 → (⟨w.heap.size + 1 + 1, i, none⟩ : Addr) ≠ ⟨n, k, none⟩ := by intro n k hn e; cases e; omega
  exact ⟨by rw [World.cell?_setCell_other _ _ _ _ (ne _ _ (by omega))]; exact h0, by rw [World.cell?_setCell_other _ _ _ _ (ne _ _ (by omega))]; exact h1, by rw [World.cell?_setCell_other _ _ _ _ (ne _ _ (by omega))]; exact h2, by rw [World.cell?_setCell_other _ _ _ _ (ne _ _ (by omega))]; exact h3, by simpa using h4, h5⟩

set_option maxRecDepth 100000 in
set_option maxHeartbeats 4000000 in
theorem rfold_c (l : List (Nat × Nat)) (n cap B off : Nat) (a b : Nat) (w : World) (hn : l.length = n) (hm : n ≤ 1000) (hB : B < w.heap.size)
    (hl : ∀ i (h : i < l.length), w.cell? ⟨B, off + i * 2, none⟩ = some (.float .f64 (l[i]).1) ∧ w.cell? ⟨B, off + i * 2 + 1, none⟩ = some (.float .f64 (l[i]).2)) :
    Calls Try.prog 30 #[.slice (some ⟨B, off, none⟩) n cap, zv a b] w (RetZ (FoldR a b l) w) := by
  have H := Lib.hid hl
  have HN := Lib.hid hn
  clear hl hn
  go_enter Try.func30, Try.ntmps30
  go_wp2_with fail
  go_loopw [6] (fun i wr => ∃ (j re im : Nat), j ≤ n ∧ i = .int .i64 ((j : Int) - 1) ∧ FoldR a b (l.drop j) re im ∧ PowMem w a b wr re im) (fun i _ => (intOf i + 1).toNat)
  case atStart =>
    refine ⟨n, 0, 0, Nat.le_refl _, rfl, ?_, ?_⟩
    · rw [List.drop_of_length_le (by rw [HN.out]; omega)]; exact ⟨rfl, rfl⟩
    · exact PowMem.start0 w a b
  case round =>
    obtain ⟨j, re, im, hj, rfl, hp, hm2⟩ := hrel
    obtain ⟨z0, z1, r0, r1, p0, p1, fr, fp, sz, bel⟩ := id hm2
    by_cases hz : j = 0
    · subst hz
      go_wp2_with fail
      refine bodyPost_ret (v := zv re im) (by simp [results, Try.results30, go_sem, r0, r1]) rfl ⟨_, _, hp, rfl, ?_⟩
      exact Below.setCell (Below.setCell bel (by simp) _) (by simp) _
    · obtain ⟨j, rfl⟩ : ∃ i, j = i + 1 := ⟨j - 1, by omega⟩
      have hjl : j < l.length := by rw [HN.out]; omega
      have hx := (H.out j hjl).1
      have hy := (H.out j hjl).2
      rw [← bel.cell (p := ⟨B, off + j * 2, none⟩) hB] at hx
      rw [← bel.cell (p := ⟨B, off + j * 2 + 1, none⟩) hB] at hy
      have ej : ((j + 1 : Nat) : Int) - 1 = (j : Int) := by omega
      rw [ej]
      have hi0 : (0 : Int) ≤ (j : Int) := by omega
      have hi1 : (j : Int) < (n : Int) := by omega
      have HFS : Hid (FS w a b B (off + j * 2) (l[j]).1 (l[j]).2 wr) := Lib.hid ⟨z0, z1, hx, hy, sz, hB⟩
      have HZ := Lib.hid hz
      clear hz ej
      go_wp2_with fail
      go_region_with
        (first
          | (go_at_call 33; refine (rmul_c _ _ _ _ _).mono ?_; rintro e w1 ⟨x, y, hxy, rfl, hb1⟩; have sz1 : w.heap.size + 1 + 1 < w1.heap.size := Nat.lt_of_lt_of_le sz hb1.size; have hx1 := (hb1.cell (p := ⟨B, off + j * 2, none⟩) (Nat.lt_of_lt_of_le hB bel.size)).trans hx; have hy1 := (hb1.cell (p := ⟨B, off + j * 2 + 1, none⟩) (Nat.lt_of_lt_of_le hB bel.size)).trans hy)
          | (go_at_call 31; refine (radd_c _ _ _ _ _).mono ?_; rintro e w2 ⟨r, s, hrs, rfl, hb2⟩; have q0 : w2.cell? ⟨w.heap.size + 1 + 1, 0, none⟩ = some (.float .f64 re) := (hb2.cell (p := ⟨_, 0, none⟩) sz1).trans ((hb1.cell (p := ⟨_, 0, none⟩) sz).trans p0); have q1 : w2.cell? ⟨w.heap.size + 1 + 1, 1, none⟩ = some (.float .f64 im) := (hb2.cell (p := ⟨_, 1, none⟩) sz1).trans ((hb1.cell (p := ⟨_, 1, none⟩) sz).trans p1); have g0 : w2.frozen? ⟨w.heap.size + 1 + 1, 0, none⟩ = false := (hb2.frozen (p := ⟨_, 0, none⟩) sz1).trans ((hb1.frozen (p := ⟨_, 0, none⟩) sz).trans (fp 0)); have g1 : w2.frozen? ⟨w.heap.size + 1 + 1, 1, none⟩ = false := (hb2.frozen (p := ⟨_, 1, none⟩) sz1).trans ((hb1.frozen (p := ⟨_, 1, none⟩) sz).trans (fp 1))))
      all_goals
        go_wp2_with fail
        go_roundw
        case rel => exact ⟨j, r, s, by omega, rfl, FoldR.drop hjl hp hxy hrs.1 hrs.2, hm2.next (Below.step (Below.step (below_drewN (Below.refl _ _) 1) hb1) hb2)⟩
        case measure => simp [intOf]; try omega

theorem rfold_nil (p : Option Addr) (cap a b : Nat) (w : World) : Calls Try.prog 30 #[.slice p 0 cap, zv a b] w (RetZ (FoldR a b []) w) := by
  go_enter Try.func30, Try.ntmps30
  go_wp2_with fail
  go_loopw [6] (fun i wr => i = .int .i64 (-1) ∧ PowMem w a b wr 0 0) (fun i _ => 0)
  case atStart => exact ⟨rfl, PowMem.start0 w a b⟩
  case round =>
    obtain ⟨rfl, z0, z1, r0, r1, p0, p1, fr, fp, sz, bel⟩ := hrel
    go_wp2_with fail
    refine bodyPost_ret (v := zv 0 0) (by simp [results, Try.results30, go_sem, r0, r1]) rfl ⟨_, _, ⟨rfl, rfl⟩, rfl, ?_⟩
    exact Below.setCell (Below.setCell bel (by simp) _) (by simp) _
end Go.Proofs.Ythadgapgnlghfaa
