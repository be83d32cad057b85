/- CplxSames: a number is the same as itself, whichever stands first, and as what is made of its bits. The walk, for every bits. -/
import Derived.Test.YthadgapgnlghfaaLive
namespace Go.Proofs.Ythadgapgnlghfaa
open Go Go.RowKit Go.Proofs.Ythadgapgnlghfaa.Dbl

/-- two numbers' bits lie in the two newest blocks; nothing below has turned. -/
abbrev S4 (w : World) (a b c d : Value) (w' : World) : Prop :=
  w'.cell? ⟨w.heap.size, 0, none⟩ = some a ∧ w'.cell? ⟨w.heap.size, 1, none⟩ = some b ∧ w'.cell? ⟨w.heap.size + 1, 0, none⟩ = some c ∧ w'.cell? ⟨w.heap.size + 1, 1, none⟩ = some d ∧ w.heap.size + 1 < w'.heap.size ∧ Below w.heap.size w w'
theorem S4.keep {w wc w1 : World} {a b c d : Value} (h : S4 w a b c d wc) (hb : Below wc.heap.size wc w1) : S4 w a b c d w1 := by
  obtain ⟨h0, h1, h2, h3, h4, h5⟩ := h
  obtain ⟨hc, _⟩ := bcell hb
  refine ⟨by rw [hc _ _ (by omega)]; exact h0, by rw [hc _ _ (by omega)]; exact h1, by rw [hc _ _ (by omega)]; exact h2, by rw [hc _ _ (by omega)]; exact h3, Nat.lt_of_lt_of_le h4 hb.size, h5.trans (hb.mono (by omega))⟩
theorem S4.drewN {w wc : World} {a b c d : Value} (h : S4 w a b c d wc) (n : Nat) : S4 w a b c d (wc.drewN n) := ⟨h.1, h.2.1, h.2.2.1, h.2.2.2.1, h.2.2.2.2.1, below_drewN h.2.2.2.2.2 n⟩
theorem S4.drew {w wc : World} {a b c d : Value} (h : S4 w a b c d wc) : S4 w a b c d wc.drew := h.drewN 1
theorem S4.setCell {w wc : World} {a b c d : Value} (h : S4 w a b c d wc) {p : Addr} (hp : w.heap.size + 1 < p.block) (v : Value) : S4 w a b c d (wc.setCell p v) := by
  obtain ⟨h0, h1, h2, h3, h4, h5⟩ := h
  have ne : ∀ n i, n ≤ w.heap.size + 1 → p ≠ ⟨n, i, none⟩ := by intro n i hn e; subst e; simp at hp; omega
  exact ⟨by rw [World.cell?_setCell_other _ _ _ _ (ne _ _ (by omega))]; exact h0, by rw [World.cell?_setCell_other _ _ _ _ (ne _ _ (by omega))]; exact h1, by rw [World.cell?_setCell_other _ _ _ _ (ne _ _ (by omega))]; exact h2, by rw [World.cell?_setCell_other _ _ _ _ (ne _ _ (by omega))]; exact h3, by simpa using h4, h5.setCell (by omega) v⟩
theorem S4.alloc {w wc : World} {a b c d : Value} (h : S4 w a b c d wc) (o : Obj) : S4 w a b c d (wc.alloc o) :=
  h.keep ((Below.refl _ _).alloc (Nat.le_refl _) o)
theorem S4.start (w : World) (a b c d : Value) (s t : TypeId) : S4 w a b c d ((w.alloc (.cells #[a, b] s)).alloc (.cells #[c, d] t)) :=
  ⟨by simp [go_sem], by simp [go_sem], by simp [go_sem], by simp [go_sem], by simp, ((Below.refl _ _).alloc (Nat.le_refl _) _).alloc (by simp) _⟩

theorem sameB_self (a b : Nat) : sameB a b a b = true := by simp [sameB]
theorem sameB_comm (a b c d : Nat) : sameB a b c d = sameB c d a b := by
  unfold sameB; rw [decide_eq_decide.2 (eq_comm (a := cn a)), decide_eq_decide.2 (eq_comm (a := cn b))]
theorem sameB_cn (a b c d : Nat) : sameB (cn a) (cn b) c d = sameB a b c d := by unfold sameB; rw [cn_cn, cn_cn]

set_option maxRecDepth 100000 in
theorem sames_walk (a b c d : Int) (w : World) : Calls Try.prog 9 #[zu a b, zu c d] w fun e w' => e = .returned (.bool true) ∧ Below w.heap.size w w' := by
  have hs0 := S4.start w (.int .u64 a) (.int .u64 b) (.int .u64 c) (.int .u64 d) 36 36
  have HS := Lib.hid hs0
  clear hs0
  go_enter Try.func9, Try.ntmps9
  go_wp2_with fail
  go_region_held3 (fun w' => w'.cell? ⟨w.heap.size, 0, none⟩ = some (.int .u64 a) ∧ w'.cell? ⟨w.heap.size, 1, none⟩ = some (.int .u64 b) ∧ w'.cell? ⟨w.heap.size + 1, 0, none⟩ = some (.int .u64 c) ∧ w'.cell? ⟨w.heap.size + 1, 1, none⟩ = some (.int .u64 d) ∧ w.heap.size + 1 < w'.heap.size ∧ Below w.heap.size w w')
    (first | exact S4.drewN HS.out 1 | exact S4.keep (by assumption) (by assumption))
    (first | (go_at_call 22; refine (lof_c _ _ _).mono ?_; rintro e w1 ⟨rfl, hb⟩))
  have hS : S4 w (.int .u64 a) (.int .u64 b) (.int .u64 c) (.int .u64 d) w1 := by assumption
  have HB := Lib.hid hS.2.2.2.2.2
  clear hS
  have f1 := sameB_self (cn a.toNat) (cn b.toNat)
  have f2 := sameB_comm (cn c.toNat) (cn d.toNat) (cn a.toNat) (cn b.toNat)
  have f3 : sameB (cn (cn (cn a.toNat))) (cn (cn (cn b.toNat))) (cn a.toNat) (cn b.toNat) = true := by rw [sameB_cn, sameB_cn, sameB_self]
  go_wp2_with (first
    | (go_at_call 37; refine (cbits_c _ _ _).mono ?_; rintro e w' ⟨rfl, rfl⟩)
    | (go_at_call 39; refine (of_c _ _ _).mono ?_; rintro e w' ⟨rfl, rfl⟩)
    | (go_at_call 20; refine (same_c _ _ _ _ _).mono ?_; rintro e w' ⟨rfl, rfl⟩)
    | (go_at_call 11; refine (live_c _).mono ?_; rintro e w2 ⟨rfl, hl⟩))
  go_ret
  exact ⟨rfl, Below.step HB.out hl⟩
end Go.Proofs.Ythadgapgnlghfaa
