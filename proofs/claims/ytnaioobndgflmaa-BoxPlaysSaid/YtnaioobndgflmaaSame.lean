/- Same: two rows of the same numbers are the same. For every heap. -/
import Derived.Test.YtnaioobndgflmaaAll
namespace Go.Proofs.Ytnaioobndgflmaa
open Go Go.RowKit Go.Deep
set_option linter.unusedVariables false

/-- a row of numbers as it lies. -/
def Nums (w : World) (pa : Option Addr) (l : List Int) : Prop :=
  ∀ k, k < l.length → ∃ b off, pa = some ⟨b, off, none⟩ ∧ w.cell? ⟨b, off + k, none⟩ = some (.int .u64 (l.getD k 0))
/-- before each round. -/
def SameInv (w : World) (l : List Int) (c : Value) (wr : World) : Prop := ∃ k m : Nat, c = .int .i64 (k : Int) ∧ k ≤ l.length ∧ wr = w.drewN m

set_option maxRecDepth 100000 in
theorem same_c (l : List Int) (n : Nat) (pa pb : Option Addr) (ca cb : Nat) (w : World) (hn : l.length = n) (hs : n ≤ 3000) (ha : Nums w pa l) (hb : Nums w pb l) :
    Calls Try.prog 21 #[.slice pa n ca, .slice pb n cb] w fun r w' => r = .returned (.bool true) ∧ ∃ m, w' = w.drewN m := by
  have HA := Lib.hid ha
  have HB := Lib.hid hb
  have HN := Lib.hid hn
  clear ha hb hn
  go_enter Try.func21, Try.ntmps21
  go_wp2_with fail
  go_loopw [5] (fun c wr => SameInv w l c wr) (fun c _ => n - (intOf c).toNat)
  case atStart => exact ⟨0, 0, rfl, Nat.zero_le _, rfl⟩
  case round =>
    obtain ⟨k, m, rfl, hk, hw⟩ := hrel
    have HW := Lib.hid hw
    clear hw
    by_cases hlt : k < n
    · obtain ⟨b, off, rfl, c0⟩ := HA.out k (by rw [HN.out]; exact hlt)
      obtain ⟨b', off', rfl, c1⟩ := HB.out k (by rw [HN.out]; exact hlt)
      obtain ⟨x, hx⟩ : ∃ x, x = l.getD k 0 := ⟨_, rfl⟩
      rw [← hx] at c0 c1
      clear hx
      have d0 : wr.cell? ⟨b, off + k, none⟩ = some (.int .u64 x) := by rw [HW.out]; exact c0
      have d1 : wr.cell? ⟨b', off' + k, none⟩ = some (.int .u64 x) := by rw [HW.out]; exact c1
      have hkn : (k : Int) < (n : Int) := by omega
      clear c0 c1
      go_wp2_with fail
      go_quiet (fail)
      go_wp2_with fail
      go_roundw
      case rel => exact ⟨k + 1, m + nq, by go_num, by rw [HN.out]; omega, by rw [HW.out, World.drewN_drewN]⟩
      case measure => simp [intOf]; omega
    · have hkn : k = n := by rw [HN.out] at hk; omega
      subst hkn
      go_wp2_with fail
      go_ret
      exact ⟨rfl, m, HW.out⟩
end Go.Proofs.Ytnaioobndgflmaa
