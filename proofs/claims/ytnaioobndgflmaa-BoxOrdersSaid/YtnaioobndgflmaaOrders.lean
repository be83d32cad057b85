/- BoxOrders: what comes out is what went in, in order. The walk, for every room and every list. -/
import Derived.Test.YtnaioobndgflmaaLive
import Derived.Deep.LoopGhost
namespace Go.Proofs.Ytnaioobndgflmaa
open Go Go.RowKit Go.Deep
set_option linter.unusedVariables false

/-- four times o, o + 1, .., i - 1. -/
def cont (o i : Nat) : List Int := (List.range (i - o)).map fun j => ((4 * (o + j) : Nat) : Int)
theorem cont_len (o i : Nat) : (cont o i).length = i - o := by simp [cont]
theorem cont_snoc (o i : Nat) (h : o ≤ i) : cont o i ++ [((4 * i : Nat) : Int)] = cont o (i + 1) := by
  unfold cont
  rw [show i + 1 - o = (i - o) + 1 by omega, List.range_succ, List.map_append, List.map_singleton, show o + (i - o) = i by omega]
theorem cont_cons (o i : Nat) (h : o < i) : cont o i = ((4 * o : Nat) : Int) :: cont (o + 1) i := by
  unfold cont
  rw [show i - o = (i - (o + 1)) + 1 by omega, List.range_succ_eq_map, List.map_cons, List.map_map]
  congr 1
  exact List.map_congr_left fun j _ => by simp; omega

/-- a list of bytes as it came. -/
def Bytes (w : World) (ap : Option Addr) (len : Nat) (zs : Nat → Int) : Prop :=
  ∀ k, k < len → ∃ lb off, ap = some ⟨lb, off, none⟩ ∧ w.cell? ⟨lb, off + k, none⟩ = some (.int .u8 (zs k)) ∧ 0 ≤ zs k ∧ zs k ≤ 255

theorem orders_long (rm : Int) (ap : Option Addr) (len cap : Nat) (w : World) (h : 3000 < len) : Calls Try.prog 3 #[.int .i64 rm, .slice ap len cap] w fun e w' => e = .returned (.bool true) ∧ Below w.heap.size w w' := by
  have h' : (3000 : Int) < (len : Int) := by omega
  go_enter Try.func3, Try.ntmps3
  go_wp2_with (go_at_call 7; refine (live_c _).mono ?_; rintro e w2 ⟨rfl, hl⟩)
  go_ret
  exact ⟨rfl, hl⟩
theorem orders_range (rm : Int) (ap : Option Addr) (len cap : Nat) (w : World) (h : len ≤ 3000) (hr : rm < 1 ∨ 1024 < rm) : Calls Try.prog 3 #[.int .i64 rm, .slice ap len cap] w fun e w' => e = .returned (.bool true) ∧ Below w.heap.size w w' := by
  have h' : ¬ (3000 : Int) < (len : Int) := by omega
  have key : (decide (rm < 1) || decide (1024 < rm)) = true := by simp; omega
  go_enter Try.func3, Try.ntmps3
  go_wp2_with (first
    | (go_at_call 8; refine (newH w).mono ?_; rintro r w1 ⟨rfl, h1⟩; have H1 := Lib.hid h1; clear h1)
    | (go_at_call 9; refine (make_range w.heap.size rm _ hr).mono ?_; rintro r w' ⟨rfl, rfl⟩)
    | (go_at_call 10; refine (num_c _ _).mono ?_; rintro r w' ⟨rfl, rfl⟩)
    | (go_at_call 7; refine (live_c _).mono ?_; rintro e w2 ⟨rfl, hl⟩))
  all_goals
    go_ret
    exact ⟨rfl, (H1.out.below hl).2.1⟩
/-- what holds before each round. -/
def OrdInv (w : World) (rm len : Nat) (a b c : Value) (wr : World) : Prop :=
  ∃ ni d no k : Nat, a = .int .i64 (ni : Int) ∧ b = .int .i64 (no : Int) ∧ c = .int .i64 (k : Int) ∧ ni = no + d ∧ d ≤ rm ∧ ni ≤ k ∧ k ≤ len ∧ ∃ vs, vs 0 = cont no ni ∧ BxH w.heap.size w wr w.heap.size 1 (fset (fun _ => 0) 0 rm) vs
set_option maxRecDepth 100000 in
set_option maxHeartbeats 8000000 in
theorem orders_in (rm : Nat) (ap : Option Addr) (len cap : Nat) (zs : Nat → Int) (w : World) (h : len ≤ 3000) (h1 : 1 ≤ rm) (h2 : rm ≤ 1024) (hz : Bytes w ap len zs) : Calls Try.prog 3 #[.int .i64 (rm : Int), .slice ap len cap] w fun e w' => e = .returned (.bool true) ∧ Below w.heap.size w w' := by
  have h' : ¬ (3000 : Int) < (len : Int) := by omega
  have HZ := Lib.hid hz
  clear hz
  go_enter Try.func3, Try.ntmps3
  go_wp2_with (first
    | (go_at_call 8; refine (newH w).mono ?_; rintro r w1 ⟨rfl, h1'⟩; have H1 := Lib.hid h1'; clear h1')
    | (go_at_call 9; refine (makeI H1.out (by omega) (rm : Int) 0 rfl (by omega) (by omega)).mono ?_; rintro r w2 ⟨rfl, h2'⟩; rw [Int.toNat_natCast] at h2'; have H2 := Lib.hid h2'; clear h2')
    | (go_at_call 10; refine (num_c _ _).mono ?_; rintro r w' ⟨rfl, rfl⟩))
  go_loopw [8, 9, 10] (fun a b c wr => OrdInv w rm len a b c wr) (fun _ _ c _ => len - (intOf c).toNat)
  case atStart => exact ⟨0, 0, 0, 0, rfl, rfl, rfl, rfl, by omega, by omega, by omega, fset (fun _ => []) 0 [], rfl, H2.out⟩
  case round =>
    obtain ⟨ni, d, no, k, rfl, rfl, rfl, hnd, hrm, hik, hk, vs, hvs, hbx⟩ := hrel
    have hsub : (ni : Int) - (no : Int) = (d : Int) := by omega
    have HB := Lib.hid hbx
    have HV := Lib.hid hvs
    have HL := Lib.hid (show (vs 0).length = d by rw [hvs, cont_len]; omega)
    have HD := Lib.hid hnd
    clear hbx hvs hnd
    by_cases hlt : k < len
    · obtain ⟨lb, off, rfl, hc, hz0, hz1⟩ := HZ.out k hlt
      have hlb : lb < w.heap.size := World.block_lt_of_cell? w _ hc
      have d0 : wr.cell? ⟨lb, off + k, none⟩ = some (.int .u8 (zs k)) := (HB.out.2.1.cell (p := ⟨lb, off + k, none⟩) hlb).trans hc
      have hkl : (k : Int) < (len : Int) := by omega
      clear hc
      by_cases hm : zs k % 5 < 3
      · by_cases hf : d = rm
        · have HF := Lib.hid hf
          have hf2 : ¬ (rm : Int) < (d : Int) := by omega
          clear hf
          go_wp2_with (first
            | (go_at_call 11; refine (isFullI HB.out.1 0 0 rfl (by omega) true (by rw [HL.out, HF.out]; simp [fset])).mono ?_; rintro r w' ⟨rfl, rfl⟩)
            | (go_at_call 12; refine (fullI HB.out.1 0 _ 0 rfl (by omega) (by rw [HL.out, HF.out]; simp [fset])).mono ?_; rintro r w' ⟨rfl, rfl⟩)
            | (go_at_call 10; refine (num_c _ _).mono ?_; rintro r w' ⟨rfl, rfl⟩)
            | (go_at_call 14; refine (lenI HB.out.1 0 0 rfl (by omega) (d : Int) (by rw [HL.out])).mono ?_; rintro r w' ⟨rfl, rfl⟩))
          go_roundw
          case rel => exact ⟨ni, d, no, k + 1, rfl, rfl, by go_num, HD.out, by omega, by omega, by omega, vs, HV.out, HB.out⟩
          case measure => simp [intOf]; omega
        · have hf1 : d < rm := by omega
          have hf2 : ¬ (rm : Int) < (d : Int) + 1 := by omega
          have hsub2 : (ni : Int) + 1 - (no : Int) = (d : Int) + 1 := by omega
          clear hf
          go_wp2_with (first
            | (go_at_call 11; refine (isFullI HB.out.1 0 0 rfl (by omega) false (by rw [HL.out]; simp [fset]; omega)).mono ?_; rintro r w' ⟨rfl, rfl⟩)
            | (go_at_call 12; refine (sendI HB.out 0 (4 * (ni : Int)) 0 rfl (by omega) (by rw [HL.out]; simp [fset]; omega)).mono ?_; rintro r w3 ⟨rfl, h3⟩; have H3 := Lib.hid h3; clear h3)
            | (go_at_call 10; refine (num_c _ _).mono ?_; rintro r w' ⟨rfl, rfl⟩)
            | (go_at_call 14; refine (lenI H3.out.1 0 0 rfl (by omega) ((d : Int) + 1) (by rw [fset_same, List.length_append, HL.out]; rfl)).mono ?_; rintro r w' ⟨rfl, rfl⟩))
          go_roundw
          case rel => exact ⟨ni + 1, d + 1, no, k + 1, by go_num, rfl, by go_num, by have := HD.out; omega, by omega, by omega, by omega, _, by rw [fset_same, HV.out, ← cont_snoc no ni (by have := HD.out; omega)]; rfl, H3.out⟩
          case measure => simp [intOf]; omega
      · have hf2 : ¬ (rm : Int) < (d : Int) := by omega
        by_cases he : no < ni
        · have he' : (no : Int) < (ni : Int) := by omega
          have hsub2 : (ni : Int) - ((no : Int) + 1) = (d : Int) - 1 := by omega
          have hf3 : ¬ (rm : Int) < (d : Int) - 1 := by omega
          go_wp2_with (first
            | (go_at_call 13; refine (recvI HB.out 0 0 rfl (by omega) (4 * (no : Int)) (cont (no + 1) ni) (by rw [HV.out, cont_cons no ni he]; rfl)).mono ?_; rintro r w3 ⟨rfl, h3⟩; have H3 := Lib.hid h3; clear h3)
            | (go_at_call 10; refine (num_c _ _).mono ?_; rintro r w' ⟨rfl, rfl⟩)
            | (go_at_call 14; refine (lenI H3.out.1 0 0 rfl (by omega) ((d : Int) - 1) (by rw [fset_same, cont_len]; have := HD.out; omega)).mono ?_; rintro r w' ⟨rfl, rfl⟩))
          go_roundw
          case rel => exact ⟨ni, d - 1, no + 1, k + 1, rfl, by go_num, by go_num, by have := HD.out; omega, by omega, by omega, by omega, _, by rw [fset_same], H3.out⟩
          case measure => simp [intOf]; omega
        · have he' : ¬ (no : Int) < (ni : Int) := by omega
          have hd0 : d = 0 := by have := HD.out; omega
          have HD0 := Lib.hid hd0
          clear hd0
          go_wp2_with (first
            | (go_at_call 13; refine (emptyI HB.out.1 0 0 rfl (by omega) (by rw [HL.out, HD0.out])).mono ?_; rintro r w' ⟨rfl, rfl⟩)
            | (go_at_call 10; refine (num_c _ _).mono ?_; rintro r w' ⟨rfl, rfl⟩)
            | (go_at_call 14; refine (lenI HB.out.1 0 0 rfl (by omega) (d : Int) (by rw [HL.out])).mono ?_; rintro r w' ⟨rfl, rfl⟩))
          go_roundw
          case rel => exact ⟨ni, d, no, k + 1, rfl, rfl, by go_num, HD.out, by omega, by omega, by omega, vs, HV.out, HB.out⟩
          case measure => simp [intOf]; omega
    · have hkn : k = len := by omega
      subst hkn
      go_wp2_with (go_at_call 7; refine (live_c _).mono ?_; rintro e w2 ⟨rfl, hl⟩)
      go_ret
      exact ⟨rfl, (HB.out.below hl).2.1⟩
end Go.Proofs.Ytnaioobndgflmaa
