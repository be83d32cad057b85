/- BoxFills: a box takes as many values as it has room for, tells them in order, and gives them all back. The walk, for every list and every room. -/
import Derived.Test.YtnaioobndgflmaaSame
namespace Go.Proofs.Ytnaioobndgflmaa
open Go Go.RowKit Go.Deep
set_option linter.unusedVariables false

theorem fills_long (rm : Int) (ap : Option Addr) (len cap : Nat) (w : World) (h : 200 < len) : Calls Try.prog 6 #[.slice ap len cap, .int .i64 rm] w fun e w' => e = .returned (.bool true) ∧ Below w.heap.size w w' := by
  have h' : (200 : Int) < (len : Int) := by omega
  go_enter Try.func6, Try.ntmps6
  go_wp2_with (go_at_call 7; refine (live_c _).mono ?_; rintro e w2 ⟨rfl, hl⟩)
  go_ret
  exact ⟨rfl, hl⟩
theorem fills_range (rm : Int) (ap : Option Addr) (len cap : Nat) (w : World) (h : len ≤ 200) (hr : rm < 1 ∨ 1024 < rm) : Calls Try.prog 6 #[.slice ap len cap, .int .i64 rm] w fun e w' => e = .returned (.bool true) ∧ Below w.heap.size w w' := by
  have h' : ¬ (200 : Int) < (len : Int) := by omega
  have key : (decide (rm < 1) || decide (1024 < rm)) = true := by simp; omega
  go_enter Try.func6, Try.ntmps6
  go_wp2_with (first
    | (go_at_call 8; refine (newH w).mono ?_; rintro r w1 ⟨rfl, h1⟩; have H1 := Lib.hid h1; clear h1)
    | (go_at_call 9; refine (make_range w.heap.size rm _ hr).mono ?_; rintro r w' ⟨rfl, rfl⟩)
    | (go_at_call 10; refine (num_c _ _).mono ?_; rintro r w' ⟨rfl, rfl⟩)
    | (go_at_call 7; refine (live_c _).mono ?_; rintro e w2 ⟨rfl, hl⟩))
  all_goals
    go_ret
    exact ⟨rfl, (H1.out.below hl).2.1⟩

/-- before each Recv. -/
def GiveInv (w : World) (l : List Int) (n rm : Nat) (b : Value) (wr : World) : Prop :=
  ∃ k : Nat, b = .int .i64 (k : Int) ∧ k ≤ n ∧ ∃ vs, vs 0 = (l.take n).drop k ∧ BxH w.heap.size w wr w.heap.size 1 (fset (fun _ => 0) 0 rm) vs
/-- before each Send. -/
def FillInv (w : World) (l : List Int) (rm : Nat) (a b : Value) (wr : World) : Prop :=
  ∃ n k : Nat, a = .int .i64 (n : Int) ∧ b = .int .i64 (k : Int) ∧ k ≤ l.length ∧ n = min k rm ∧ ∃ vs, vs 0 = l.take n ∧ BxH w.heap.size w wr w.heap.size 1 (fset (fun _ => 0) 0 rm) vs

theorem take_snoc (l : List Int) (n : Nat) (h : n < l.length) : l.take n ++ [l.getD n 0] = l.take (n + 1) := by
  rw [List.take_add_one, List.getElem?_eq_getElem h]
  simp [List.getD, List.getElem?_eq_getElem h]

set_option maxRecDepth 100000 in
set_option maxHeartbeats 8000000 in
theorem fills_in (rm : Nat) (ap : Option Addr) (cap len : Nat) (l : List Int) (w : World) (hlen : l.length = len) (hlc : len ≤ cap) (h : len ≤ 200) (h1 : 1 ≤ rm) (h2 : rm ≤ 1024) (hz : Nums w ap l) : Calls Try.prog 6 #[.slice ap len cap, .int .i64 (rm : Int)] w fun e w' => e = .returned (.bool true) ∧ Below w.heap.size w w' := by
  have h' : ¬ (200 : Int) < (len : Int) := by omega
  have HZ := Lib.hid hz
  have HN := Lib.hid hlen
  clear hz hlen
  go_enter Try.func6, Try.ntmps6
  go_wp2_with (first
    | (go_at_call 8; refine (newH w).mono ?_; rintro r w1 ⟨rfl, h1'⟩; have H1 := Lib.hid h1'; clear h1')
    | (go_at_call 9; refine (makeI H1.out (by omega) (rm : Int) 0 rfl (by omega) (by omega)).mono ?_; rintro r w2 ⟨rfl, h2'⟩; rw [Int.toNat_natCast] at h2'; have H2 := Lib.hid h2'; clear h2')
    | (go_at_call 10; refine (num_c _ _).mono ?_; rintro r w' ⟨rfl, rfl⟩))
  go_loopw [8, 9] (fun a b wr => FillInv w l rm a b wr) (fun _ b _ => len - (intOf b).toNat)
  case atStart => exact ⟨0, 0, rfl, rfl, Nat.zero_le _, by omega, fset (fun _ => []) 0 [], rfl, H2.out⟩
  case round =>
    obtain ⟨n, k, rfl, rfl, hk, hn, vs, hvs, hbx⟩ := hrel
    rw [HN.out] at hk
    have HB := Lib.hid hbx
    have HV := Lib.hid hvs
    have HL := Lib.hid (show (vs 0).length = n by rw [hvs, List.length_take, HN.out]; omega)
    have Hn := Lib.hid hn
    have hnk : n ≤ k := by omega
    clear hbx hvs hn
    by_cases hlt : k < len
    · obtain ⟨lb, off, rfl, hc⟩ := HZ.out k (by rw [HN.out]; exact hlt)
      obtain ⟨x, hx⟩ : ∃ x, x = l.getD k 0 := ⟨_, rfl⟩
      rw [← hx] at hc
      have HX := Lib.hid hx
      have hlb : lb < w.heap.size := World.block_lt_of_cell? w _ hc
      have d0 : wr.cell? ⟨lb, off + k, none⟩ = some (.int .u64 x) := (HB.out.2.1.cell (p := ⟨lb, off + k, none⟩) hlb).trans hc
      have hkl : (k : Int) < (len : Int) := by omega
      clear hc hx
      by_cases hf : n < rm
      · have hf' : (n : Int) < (rm : Int) := by omega
        have hnk2 : n = k := by have := Hn.out; omega
        have HK := Lib.hid hnk2
        clear hnk2
        go_wp2_with (first
          | (go_at_call 12; refine (sendI HB.out 0 x 0 rfl (by omega) (by rw [HL.out]; simp [fset]; omega)).mono ?_; rintro r w3 ⟨rfl, h3⟩; have H3 := Lib.hid h3; clear h3)
          | (go_at_call 10; refine (num_c _ _).mono ?_; rintro r w' ⟨rfl, rfl⟩))
        go_roundw
        case rel => exact ⟨n + 1, k + 1, by go_num, by go_num, by rw [HN.out]; omega, by have := HK.out; omega, _, by rw [fset_same, HV.out, HX.out, ← HK.out, take_snoc _ _ (by rw [HN.out, HK.out]; exact hlt)], H3.out⟩
        case measure => simp [intOf]; omega
      · have hf' : ¬ (n : Int) < (rm : Int) := by omega
        have hnr : n = rm := by have := Hn.out; omega
        have HK := Lib.hid hnr
        clear hnr
        go_wp2_with (first
          | (go_at_call 12; refine (fullI HB.out.1 0 x 0 rfl (by omega) (by rw [HL.out]; have := HK.out; simp [fset]; omega)).mono ?_; rintro r w' ⟨rfl, rfl⟩)
          | (go_at_call 10; refine (num_c _ _).mono ?_; rintro r w' ⟨rfl, rfl⟩))
        go_roundw
        case rel => exact ⟨n, k + 1, rfl, by go_num, by rw [HN.out]; omega, by have := HK.out; omega, vs, HV.out, HB.out⟩
        case measure => simp [intOf]; omega
    · have hnl : (n : Int) ≤ (len : Int) := by omega
      have hnl2 : n ≤ len := by omega
      have hnc : (n : Int) ≤ (cap : Int) := by omega
      have hkl : ¬ (k : Int) < (len : Int) := by omega
      clear hlt
      go_wp2_with fail
      go_at_call 19
      refine (all_in HB.out.1 0 (by omega)).mono ?_
      rintro r w3 ⟨v, rfl, hown, hbl⟩
      rw [HL.out, HV.out] at hown
      obtain ⟨pa, ca, rfl⟩ := ownsRow_len hown
      have hlt2 : (l.take n).length = n := by rw [List.length_take, HN.out]; omega
      have HB3 := Lib.hid (HB.out.below hbl)
      have hna : Nums w3 pa (l.take n) := by
        intro j hj
        rcases hown.2 with ⟨h0, hn0⟩ | ⟨g, cc, cur, hv, hg, hh, _⟩
        · omega
        · simp only [Value.slice.injEq] at hv
          refine ⟨g, 0, hv.1, ?_⟩
          have := hown.cells (g := g) (by rw [hv.1]; rfl) j (.int .u64 ((l.take n).getD j 0)) (by rw [List.getElem?_map, List.getElem?_eq_getElem hj]; simp only [Option.map_some, List.getD, List.getElem?_eq_getElem hj, Option.getD_some])
          rwa [Addr.add_lit] at this
      have hnb : Nums w3 ap (l.take n) := by
        intro j hj
        obtain ⟨b, off, e, hc⟩ := HZ.out j (by rw [HN.out]; omega)
        refine ⟨b, off, e, ?_⟩
        rw [(HB3.out.2.1.cell (p := ⟨b, off + j, none⟩) (World.block_lt_of_cell? w _ hc)), hc]
        simp [List.getD, show j < n by omega]
      have HNA := Lib.hid hna
      have HNB := Lib.hid hnb
      have HLT := Lib.hid hlt2
      clear hna hnb hlt2 hown hbl
      go_wp2_with (first
        | (go_at_call 10; refine (num_c _ _).mono ?_; rintro r w' ⟨rfl, rfl⟩)
        | (go_at_call 21; refine (same_c (l.take n) n _ _ _ _ _ HLT.out (by omega) HNA.out HNB.out).mono ?_; rintro r w' ⟨rfl, m, rfl⟩))
      go_loopw [12] (fun b wr => GiveInv w l n rm b wr) (fun b _ => n - (intOf b).toNat)
      case atStart => exact ⟨0, rfl, Nat.zero_le _, vs, by rw [HV.out, List.drop_zero], HB3.out.drewN m⟩
      case round =>
        obtain ⟨j, rfl, hj, vs', hvs', hbx'⟩ := hrel
        have HB4 := Lib.hid hbx'
        have HV4 := Lib.hid hvs'
        clear hbx' hvs'
        by_cases hjn : j < n
        · obtain ⟨lb, off, rfl, hc⟩ := HZ.out j (by rw [HN.out]; omega)
          obtain ⟨x, hx⟩ : ∃ x, x = l.getD j 0 := ⟨_, rfl⟩
          rw [← hx] at hc
          have hlb : lb < w.heap.size := World.block_lt_of_cell? w _ hc
          have hcons : vs' 0 = x :: (l.take n).drop (j + 1) := by
            rw [HV4.out, List.drop_eq_getElem_cons (by rw [HLT.out]; exact hjn), hx]
            simp [List.getD, List.getElem?_eq_getElem (show j < l.length by rw [HN.out]; omega)]
          have HC := Lib.hid hcons
          have HCC := Lib.hid hc
          have hjl : (j : Int) < (len : Int) := by omega
          have hjn' : (j : Int) < (n : Int) := by omega
          clear hcons hx hc
          go_wp2_with (first
            | (go_at_call 13; refine (recvI HB4.out 0 0 rfl (by omega) x ((l.take n).drop (j + 1)) HC.out).mono ?_; rintro r w5 ⟨rfl, h5⟩; have d5 : w5.cell? ⟨lb, off + j, none⟩ = some (.int .u64 x) := (h5.2.1.cell (p := ⟨lb, off + j, none⟩) hlb).trans HCC.out; have H5 := Lib.hid h5; clear h5)
            | (go_at_call 10; refine (num_c _ _).mono ?_; rintro r w' ⟨rfl, rfl⟩))
          go_roundw
          case rel => exact ⟨j + 1, by go_num, by omega, _, fset_same _ _ _, H5.out⟩
          case measure => simp [intOf]; omega
        · have hjn' : ¬ (j : Int) < (n : Int) := by omega
          have hnil : (vs' 0).length = 0 := by rw [HV4.out, List.length_drop, HLT.out]; omega
          have HE := Lib.hid hnil
          clear hnil hjn
          go_wp2_with (first
            | (go_at_call 20; refine (isEmptyI HB4.out.1 0 0 rfl (by omega) true (by rw [HE.out]; rfl)).mono ?_; rintro r w' ⟨rfl, rfl⟩)
            | (go_at_call 11; refine (isFullI HB4.out.1 0 0 rfl (by omega) false (by rw [HE.out]; simp [fset]; omega)).mono ?_; rintro r w' ⟨rfl, rfl⟩)
            | (go_at_call 7; refine (live_c _).mono ?_; rintro e w6 ⟨rfl, hl⟩))
          go_ret
          exact ⟨rfl, (HB4.out.below hl).2.1⟩
end Go.Proofs.Ytnaioobndgflmaa
