/- BoxBounds: as many boxes and as much room as may be, and more; what nil objects answer. The walk, for every number. -/
import Derived.Test.YtnaioobndgflmaaLive
import Derived.Deep.LoopGhost
namespace Go.Proofs.Ytnaioobndgflmaa
open Go Go.RowKit Go.Deep
set_option linter.unusedVariables false

theorem all_none (i : Int) (w : World) : Calls Try.prog 19 #[.pointer none, .int .i64 i] w fun r w' => r = .returned (.tuple #[.slice none 0 0, .int .i64 5]) ∧ w = w' := by
  go_enter Try.func19, Try.ntmps19
  go_wp2_with (go_at_call 22; refine (find_none _ _).mono ?_; rintro r w' ⟨rfl, rfl⟩)
  go_ret2
  exact ⟨rfl, rfl⟩
theorem sendA {H : Nat} {w0 w : World} {B n : Nat} {room : Nat → Nat} {vs : Nat → List Int} (h : BxH H w0 w B n room vs) (i v : Int) (k : Nat) (hk : i = k) (hi : k < n) (l : Nat) (hl : (vs k).length = l) :
    Calls Try.prog 12 #[ptr B, .int .i64 i, .int .u64 v] w fun r w' => (l < room k ∧ r = .returned (.int .i64 0) ∧ BxH H w0 w' B n room (fset vs k (vs k ++ [v]))) ∨ (l = room k ∧ r = .returned (.int .i64 7) ∧ BxH H w0 w' B n room vs) := by
  by_cases hf : (vs k).length = room k
  · exact (fullI h.1 i v k hk hi hf).mono fun r w' ⟨e, hw⟩ => .inr ⟨by omega, e, hw ▸ h⟩
  · have := (h.1.room_le hi).1
    exact (sendI h i v k hk hi (by omega)).mono fun r w' ⟨e, hb⟩ => .inl ⟨by omega, e, hb⟩

theorem bounds_out (n v : Int) (w : World) (h : n < 1020 ∨ 1030 < n) : Calls Try.prog 5 #[.int .i64 n, .int .u64 v] w fun e w' => e = .returned (.bool true) ∧ Below w.heap.size w w' := by
  by_cases h1 : n < 1020
  · clear h
    go_enter Try.func5, Try.ntmps5
    go_wp2_with (go_at_call 7; refine (live_c _).mono ?_; rintro e w2 ⟨rfl, hl⟩)
    go_ret
    exact ⟨rfl, hl⟩
  · have h2 : 1030 < n := by omega
    clear h
    go_enter Try.func5, Try.ntmps5
    go_wp2_with (go_at_call 7; refine (live_c _).mono ?_; rintro e w2 ⟨rfl, hl⟩)
    go_ret
    exact ⟨rfl, hl⟩

/-- before each Send. -/
def SendInv (w : World) (n : Nat) (c : Value) (wr : World) : Prop :=
  ∃ k l : Nat, c = .int .i64 (k : Int) ∧ k ≤ n + 1 ∧ l = min k n ∧ ∃ room vs, room 0 = n ∧ (vs 0).length = l ∧ BxH w.heap.size w wr w.heap.size 1 room vs
/-- before each Make. -/
def MakeInv (w : World) (n m : Nat) (c : Value) (wr : World) : Prop :=
  ∃ k : Nat, c = .int .i64 (k : Int) ∧ m ≤ k ∧ k ≤ n ∧ ∃ room vs, BxH w.heap.size w wr w.heap.size (min k 1024) room vs

set_option maxRecDepth 100000 in
set_option maxHeartbeats 8000000 in
theorem bounds_in (n : Nat) (v : Int) (w : World) (h1 : 1020 ≤ n) (h2 : n ≤ 1024) : Calls Try.prog 5 #[.int .i64 (n : Int), .int .u64 v] w fun e w' => e = .returned (.bool true) ∧ Below w.heap.size w w' := by
  go_enter Try.func5, Try.ntmps5
  go_wp2_with (first
    | (go_at_call 8; refine (newH w).mono ?_; rintro r w1 ⟨rfl, h1'⟩; have H1 := Lib.hid h1'; clear h1')
    | (go_at_call 9; refine (makeI H1.out (by omega) (n : Int) 0 rfl (by omega) (by omega)).mono ?_; rintro r w2 ⟨rfl, h2'⟩; rw [Int.toNat_natCast] at h2'; have H2 := Lib.hid h2'; clear h2')
    | (go_at_call 10; refine (num_c _ _).mono ?_; rintro r w' ⟨rfl, rfl⟩))
  go_loopw [9] (fun c wr => SendInv w n c wr) (fun c _ => n + 1 - (intOf c).toNat)
  case atStart => exact ⟨0, 0, rfl, by omega, by omega, _, _, fset_same _ _ _, by rw [fset_same]; rfl, H2.out⟩
  case round =>
    obtain ⟨k, l, rfl, hk, hl, room, vs, hroom, hlen, hbx⟩ := hrel
    have HB := Lib.hid hbx
    have HL := Lib.hid hlen
    have HR := Lib.hid hroom
    have Hl := Lib.hid hl
    clear hbx hlen hroom hl
    by_cases hlt : k ≤ n
    · by_cases hkn : k < n
      · have hkn' : (k : Int) < (n : Int) := by omega
        go_wp2_with (first
          | (go_at_call 12; refine (sendI HB.out 0 v 0 rfl (by omega) (by rw [HL.out, HR.out, Hl.out]; omega)).mono ?_; rintro r w3 ⟨rfl, h3⟩; have H3 := Lib.hid h3; clear h3)
          | (go_at_call 10; refine (num_c _ _).mono ?_; rintro r w' ⟨rfl, rfl⟩))
        go_roundw
        case rel => exact ⟨k + 1, l + 1, by go_num, by omega, by have := Hl.out; omega, _, _, HR.out, by rw [fset_same, List.length_append, HL.out]; rfl, H3.out⟩
        case measure => simp [intOf]; omega
      · have hkn' : ¬ (k : Int) < (n : Int) := by omega
        go_wp2_with (first
          | (go_at_call 12; refine (fullI HB.out.1 0 v 0 rfl (by omega) (by rw [HL.out, HR.out, Hl.out]; omega)).mono ?_; rintro r w' ⟨rfl, rfl⟩)
          | (go_at_call 10; refine (num_c _ _).mono ?_; rintro r w' ⟨rfl, rfl⟩))
        go_roundw
        case rel => exact ⟨k + 1, l, by go_num, by omega, by have := Hl.out; omega, _, _, HR.out, HL.out, HB.out⟩
        case measure => simp [intOf]; omega
    · have hkn' : ¬ (k : Int) ≤ (n : Int) := by omega
      clear hlt
      go_wp2_with fail
      go_loopw [10] (fun c wr => MakeInv w n 1 c wr) (fun c _ => n - (intOf c).toNat)
      case atStart => exact ⟨1, rfl, by omega, by omega, _, _, HB.out⟩
      case round =>
        obtain ⟨k, rfl, hmk, hkn, room, vs, hbx⟩ := hrel
        have HB := Lib.hid hbx
        clear hbx
        by_cases hlt : k < n
        · have hlt' : (k : Int) < (n : Int) := by omega
          have hk4 : (k : Int) < 1024 := by omega
          have hm4 : min k 1024 + 1 = min (k + 1) 1024 := by omega
          have HM := Lib.hid hm4
          clear hm4
          go_wp2_with (first
            | (go_at_call 9; refine (makeI HB.out (by omega) 1 (k : Int) (by omega) (by omega) (by omega)).mono ?_; rintro r w3 ⟨rfl, h3⟩; rw [HM.out] at h3; have H3 := Lib.hid h3; clear h3)
            | (go_at_call 10; refine (num_c _ _).mono ?_; rintro r w' ⟨rfl, rfl⟩))
          go_roundw
          case rel => exact ⟨k + 1, by go_num, by omega, by omega, _, _, H3.out⟩
          case measure => simp [intOf]; omega
        · have hkn' : ¬ (k : Int) < (n : Int) := by omega
          clear hlt
          go_wp2_with (first
            | (go_at_call 9; refine (make_none _ _).mono ?_; rintro r w' ⟨rfl, rfl⟩)
            | (go_at_call 14; refine (len_none _ _).mono ?_; rintro r w' ⟨rfl, rfl⟩)
            | (go_at_call 13; refine (recv_none _ _).mono ?_; rintro r w' ⟨rfl, rfl⟩)
            | (go_at_call 19; refine (all_none _ _).mono ?_; rintro r w' ⟨rfl, rfl⟩)
            | (go_at_call 12; refine (send_none _ _ _).mono ?_; rintro r w' ⟨rfl, rfl⟩)
            | (go_at_call 11; refine (full_none _ _).mono ?_; rintro r w' ⟨rfl, rfl⟩)
            | (go_at_call 20; refine (empty_none _ _).mono ?_; rintro r w' ⟨rfl, rfl⟩)
            | (go_at_call 10; refine (num_c _ _).mono ?_; rintro r w' ⟨rfl, rfl⟩)
            | (go_at_call 7; refine (live_c _).mono ?_; rintro e w2 ⟨rfl, hl⟩))
          go_ret
          exact ⟨rfl, (HB.out.below hl).2.1⟩

set_option maxRecDepth 100000 in
set_option maxHeartbeats 8000000 in
theorem bounds_over (n : Nat) (v : Int) (w : World) (h1 : 1024 < n) (h2 : n ≤ 1030) : Calls Try.prog 5 #[.int .i64 (n : Int), .int .u64 v] w fun e w' => e = .returned (.bool true) ∧ Below w.heap.size w w' := by
      go_enter Try.func5, Try.ntmps5
      go_wp2_with (first
        | (go_at_call 8; refine (newH w).mono ?_; rintro r w1 ⟨rfl, h1'⟩; have H1 := Lib.hid h1'; clear h1')
        | (go_at_call 9; refine (make_range w.heap.size (n : Int) _ (by omega)).mono ?_; rintro r w' ⟨rfl, rfl⟩)
        | (go_at_call 10; refine (num_c _ _).mono ?_; rintro r w' ⟨rfl, rfl⟩))
      go_loopw [10] (fun c wr => MakeInv w n 0 c wr) (fun c _ => n - (intOf c).toNat)
      case atStart => exact ⟨0, rfl, by omega, by omega, _, _, H1.out⟩
      case round =>
        obtain ⟨k, rfl, hmk, hkn, room, vs, hbx⟩ := hrel
        have HB := Lib.hid hbx
        clear hbx
        by_cases hlt : k < n
        · have hlt' : (k : Int) < (n : Int) := by omega
          by_cases hk5 : k < 1024
          · have hk4 : (k : Int) < 1024 := by omega
            have hm4 : min k 1024 + 1 = min (k + 1) 1024 := by omega
            have HM := Lib.hid hm4
            clear hm4
            go_wp2_with (first
              | (go_at_call 9; refine (makeI HB.out (by omega) 1 (k : Int) (by omega) (by omega) (by omega)).mono ?_; rintro r w3 ⟨rfl, h3⟩; rw [HM.out] at h3; have H3 := Lib.hid h3; clear h3)
              | (go_at_call 10; refine (num_c _ _).mono ?_; rintro r w' ⟨rfl, rfl⟩))
            go_roundw
            case rel => exact ⟨k + 1, by go_num, by omega, by omega, _, _, H3.out⟩
            case measure => simp [intOf]; omega
          · have hk4 : ¬ (k : Int) < 1024 := by omega
            have hbm : Bx (Sh w.heap.size) wr w.heap.size 1024 room vs := by have := HB.out.1; rwa [show min k 1024 = 1024 by omega] at this
            have HBM := Lib.hid hbm
            have hm4 : min k 1024 = min (k + 1) 1024 := by omega
            have HM := Lib.hid hm4
            clear hm4 hbm
            go_wp2_with (first
              | (go_at_call 9; refine (make_many HBM.out 1 (by omega) (by omega)).mono ?_; rintro r w' ⟨rfl, rfl⟩)
              | (go_at_call 10; refine (num_c _ _).mono ?_; rintro r w' ⟨rfl, rfl⟩))
            go_roundw
            case rel => exact ⟨k + 1, by go_num, by omega, by omega, _, _, by rw [← HM.out]; exact HB.out⟩
            case measure => simp [intOf]; omega
        · have hkn' : ¬ (k : Int) < (n : Int) := by omega
          clear hlt
          go_wp2_with (first
            | (go_at_call 9; refine (make_none _ _).mono ?_; rintro r w' ⟨rfl, rfl⟩)
            | (go_at_call 14; refine (len_none _ _).mono ?_; rintro r w' ⟨rfl, rfl⟩)
            | (go_at_call 13; refine (recv_none _ _).mono ?_; rintro r w' ⟨rfl, rfl⟩)
            | (go_at_call 19; refine (all_none _ _).mono ?_; rintro r w' ⟨rfl, rfl⟩)
            | (go_at_call 12; refine (send_none _ _ _).mono ?_; rintro r w' ⟨rfl, rfl⟩)
            | (go_at_call 11; refine (full_none _ _).mono ?_; rintro r w' ⟨rfl, rfl⟩)
            | (go_at_call 20; refine (empty_none _ _).mono ?_; rintro r w' ⟨rfl, rfl⟩)
            | (go_at_call 10; refine (num_c _ _).mono ?_; rintro r w' ⟨rfl, rfl⟩)
            | (go_at_call 7; refine (live_c _).mono ?_; rintro e w2 ⟨rfl, hl⟩))
          go_ret
          exact ⟨rfl, (HB.out.below hl).2.1⟩
end Go.Proofs.Ytnaioobndgflmaa
