/- BoxPlays: any calls, one by one, and all that can be asked. The walk, for every list. -/
import Derived.Test.YtnaioobndgflmaaPlay
namespace Go.Proofs.Ytnaioobndgflmaa
open Go Go.RowKit Go.Deep
set_option linter.unusedVariables false

theorem plays_long (ap : Option Addr) (len cap : Nat) (w : World) (h : 100 < len) : Calls Try.prog 4 #[.slice ap len cap] w fun e w' => e = .returned (.bool true) ∧ Below w.heap.size w w' := by
  have h' : (100 : Int) < (len : Int) := by omega
  go_enter Try.func4, Try.ntmps4
  go_wp2_with (go_at_call 7; refine (live_c _).mono ?_; rintro e w2 ⟨rfl, hl⟩)
  go_ret
  exact ⟨rfl, hl⟩

/-- a list of calls as it came. -/
def Acts (w : World) (ap : Option Addr) (len : Nat) (ds is xs : Nat → Int) : Prop :=
  ∀ k, k < len → ∃ lb off, ap = some ⟨lb, off, none⟩ ∧ w.cell? ⟨lb, off + k * 3, none⟩ = some (.int .i64 (ds k)) ∧ w.cell? ⟨lb, off + k * 3 + 1, none⟩ = some (.int .i64 (is k)) ∧ w.cell? ⟨lb, off + k * 3 + 2, none⟩ = some (.int .u64 (xs k))
/-- the call, as the round lays it. -/
abbrev actO (d i x : Int) : Obj := .cells #[.int .i64 d, .int .i64 i, .int .u64 x] 40
section
variable {H : Nat} {w0 w : World} {A : Nat} {d i x : Int} {B n n' : Nat} {room room' : Nat → Nat} {vs vs' : Nat → List Int} {v : Value}
theorem Play.cell0 (h : Play H w0 w (some (A, actO d i x)) B n room vs v n' room' vs') : w.cell? ⟨A, 0, none⟩ = some (.int .i64 d) := by
  obtain ⟨S, T, h⟩ := h
  exact cell_of_row w A 0 _ _ _ (h.act A _ rfl).1
theorem Play.cell1 (h : Play H w0 w (some (A, actO d i x)) B n room vs v n' room' vs') : w.cell? ⟨A, 1, none⟩ = some (.int .i64 i) := by
  obtain ⟨S, T, h⟩ := h
  exact cell_of_row w A 1 _ _ _ (h.act A _ rfl).1
theorem Play.cell2 (h : Play H w0 w (some (A, actO d i x)) B n room vs v n' room' vs') : w.cell? ⟨A, 2, none⟩ = some (.int .u64 x) := by
  obtain ⟨S, T, h⟩ := h
  exact cell_of_row w A 2 _ _ _ (h.act A _ rfl).1
end
/-- before each round. -/
def PlaysInv (w : World) (len g : Nat) (a b : Value) (wr : World) : Prop :=
  ∃ (n k : Nat) (pa : Option Addr) (ca : Nat) (room : Nat → Nat) (vs : Nat → List Int), a = .slice pa n ca ∧ b = .int .i64 (k : Int) ∧ n ≤ k ∧ k ≤ len ∧ g = len - k ∧ Play w.heap.size w wr none w.heap.size n room vs a n room vs

set_option maxRecDepth 100000 in
set_option maxHeartbeats 8000000 in
theorem plays_in (ap : Option Addr) (len cap : Nat) (ds is xs : Nat → Int) (w : World) (h : len ≤ 100) (hz : Acts w ap len ds is xs) : Calls Try.prog 4 #[.slice ap len cap] w fun e w' => e = .returned (.bool true) ∧ Below w.heap.size w w' := by
  have h' : ¬ (100 : Int) < (len : Int) := by omega
  have HZ := Lib.hid hz
  clear hz
  go_enter Try.func4, Try.ntmps4
  go_wp2_with (first
    | (go_at_call 8; refine (newP w).mono ?_; rintro r w1 ⟨rfl, h1⟩; have H1 := Lib.hid h1; clear h1))
  go_loopg [4, 5] len (fun g a b wr => PlaysInv w len g a b wr)
  case atStart => exact ⟨0, 0, none, 0, _, _, rfl, rfl, Nat.le_refl _, Nat.zero_le _, rfl, H1.out⟩
  case round =>
    obtain ⟨n, k, pa, ca, room, vs, rfl, rfl, hnk, hk, hgk, hp⟩ := hrel
    have HP := Lib.hid hp
    have HGK := Lib.hid hgk
    clear hp hgk
    by_cases hlt : k < len
    · obtain ⟨lb, off, rfl, hc0, hc1, hc2⟩ := HZ.out k hlt
      have hlb : lb < w.heap.size := World.block_lt_of_cell? w _ hc0
      obtain ⟨S, T, hPA⟩ := id HP.out
      obtain ⟨d, hd⟩ : ∃ d, d = ds k := ⟨_, rfl⟩
      obtain ⟨i, hi⟩ : ∃ i, i = is k := ⟨_, rfl⟩
      obtain ⟨x, hx⟩ : ∃ x, x = xs k := ⟨_, rfl⟩
      rw [← hd] at hc0
      rw [← hi] at hc1
      rw [← hx] at hc2
      have d0 : wr.cell? ⟨lb, off + k * 3, none⟩ = some (.int .i64 d) := (hPA.bel.cell (p := ⟨lb, off + k * 3, none⟩) hlb).trans hc0
      have d1 : wr.cell? ⟨lb, off + k * 3 + 1, none⟩ = some (.int .i64 i) := (hPA.bel.cell (p := ⟨lb, off + k * 3 + 1, none⟩) hlb).trans hc1
      have d2 : wr.cell? ⟨lb, off + k * 3 + 2, none⟩ = some (.int .u64 x) := (hPA.bel.cell (p := ⟨lb, off + k * 3 + 2, none⟩) hlb).trans hc2
      have hkl : (k : Int) < (len : Int) := by omega
      have HA := Lib.hid (HP.out.made (w' := wr.alloc (actO d i x)) ((Below.refl _ wr).alloc (Nat.le_refl _) _) (heap_alloc_new wr _))
      clear hPA hc0 hc1 hc2 hd hi hx
      by_cases e0 : d = 0
      · obtain ⟨x1, e1, m, room2, vs2, hm, hc, hr⟩ := pMake HA.out (by omega) i
        have HC := Lib.hid hc
        have HR := Lib.hid hr
        clear hc hr
        subst e0
        go_wp2_with (first
          | (go_at_call 9; refine HC.out.mono ?_; rintro r w2 ⟨rfl, h2⟩
             have a1 := h2.cell1
             have H2 := Lib.hid h2
             clear h2)
          | (go_at_call 15; refine (HR.out w2 H2.out).mono ?_; rintro r w3 ⟨pa2, ca2, rfl, h3⟩
             have HI := Lib.hid h3.forget
             clear h3)
          | (go_at_call 10; refine (num_c _ _).mono ?_; rintro r w' ⟨rfl, rfl⟩))
        go_loopg [20] (m + 2) (fun g c wi => ∃ z : Int, c = .int .i64 z ∧ -1 ≤ z ∧ z ≤ m + 1 ∧ g = ((m : Int) + 1 - z).toNat ∧ Play w.heap.size w wi none w.heap.size m room2 vs2 (.slice pa2 m ca2) m room2 vs2)
        case atStart => exact ⟨-1, rfl, by omega, by omega, by omega, HI.out⟩
        case round =>
          obtain ⟨z, rfl, hz1, hz2, hg, hpz⟩ := hrel
          have HZP := Lib.hid hpz
          have HG := Lib.hid hg
          clear hpz hg
          by_cases hzm : z ≤ (m : Int)
          · go_wp2_with (first
              | (go_at_call 18; refine (pAsks HZP.out z).mono ?_; rintro r w5 ⟨rfl, h5⟩; have H5 := Lib.hid h5; clear h5))
            go_roundg ((m : Int) + 1 - (z + 1)).toNat
            case measure => rw [HG.out]; omega
            case rel => exact ⟨z + 1, rfl, by omega, by omega, rfl, H5.out⟩
          · have hzm' : (m : Int) < z := by omega
            go_wp2_with fail
            go_roundg (len - (k + 1))
            case measure => rw [HGK.out]; omega
            case rel => exact ⟨m, k + 1, pa2, ca2, room2, vs2, rfl, by go_num, by omega, by omega, rfl, HZP.out⟩
      · by_cases e1 : d = 1
        · obtain ⟨e2, vs2, hc, hr⟩ := pSend HA.out i x
          have HC := Lib.hid hc
          have HR := Lib.hid hr
          clear hc hr e0
          subst e1
          go_wp2_with (first
            | (go_at_call 12; refine HC.out.mono ?_; rintro r w2 ⟨rfl, h2⟩
               have a1 := h2.cell1
               have a2 := h2.cell2
               have H2 := Lib.hid h2
               clear h2)
            | (go_at_call 16; refine (HR.out w2 H2.out).mono ?_; rintro r w3 ⟨pa2, ca2, rfl, h3⟩
               have HI := Lib.hid h3.forget
               clear h3)
            | (go_at_call 10; refine (num_c _ _).mono ?_; rintro r w' ⟨rfl, rfl⟩))
          go_loopg [20] (n + 2) (fun g c wi => ∃ z : Int, c = .int .i64 z ∧ -1 ≤ z ∧ z ≤ n + 1 ∧ g = ((n : Int) + 1 - z).toNat ∧ Play w.heap.size w wi none w.heap.size n room vs2 (.slice pa2 n ca2) n room vs2)
          case atStart => exact ⟨-1, rfl, by omega, by omega, by omega, HI.out⟩
          case round =>
            obtain ⟨z, rfl, hz1, hz2, hg, hpz⟩ := hrel
            have HZP := Lib.hid hpz
            have HG := Lib.hid hg
            clear hpz hg
            by_cases hzm : z ≤ (n : Int)
            · go_wp2_with (first
                | (go_at_call 18; refine (pAsks HZP.out z).mono ?_; rintro r w5 ⟨rfl, h5⟩; have H5 := Lib.hid h5; clear h5))
              go_roundg ((n : Int) + 1 - (z + 1)).toNat
              case measure => rw [HG.out]; omega
              case rel => exact ⟨z + 1, rfl, by omega, by omega, rfl, H5.out⟩
            · have hzm' : (n : Int) < z := by omega
              go_wp2_with fail
              go_roundg (len - (k + 1))
              case measure => rw [HGK.out]; omega
              case rel => exact ⟨n, k + 1, pa2, ca2, room, vs2, rfl, by go_num, by omega, by omega, rfl, HZP.out⟩
        · by_cases e2 : d = 2
          · obtain ⟨x2, e3, vs2, hc, hr⟩ := pRecv HA.out i
            have HC := Lib.hid hc
            have HR := Lib.hid hr
            clear hc hr e0 e1
            subst e2
            go_wp2_with (first
              | (go_at_call 13; refine HC.out.mono ?_; rintro r w2 ⟨rfl, h2⟩
                 have a1 := h2.cell1
                 have H2 := Lib.hid h2
                 clear h2)
              | (go_at_call 17; refine (HR.out w2 H2.out).mono ?_; rintro r w3 ⟨pa2, ca2, rfl, h3⟩
                 have HI := Lib.hid h3.forget
                 clear h3)
              | (go_at_call 10; refine (num_c _ _).mono ?_; rintro r w' ⟨rfl, rfl⟩))
            go_loopg [20] (n + 2) (fun g c wi => ∃ z : Int, c = .int .i64 z ∧ -1 ≤ z ∧ z ≤ n + 1 ∧ g = ((n : Int) + 1 - z).toNat ∧ Play w.heap.size w wi none w.heap.size n room vs2 (.slice pa2 n ca2) n room vs2)
            case atStart => exact ⟨-1, rfl, by omega, by omega, by omega, HI.out⟩
            case round =>
              obtain ⟨z, rfl, hz1, hz2, hg, hpz⟩ := hrel
              have HZP := Lib.hid hpz
              have HG := Lib.hid hg
              clear hpz hg
              by_cases hzm : z ≤ (n : Int)
              · go_wp2_with (first
                  | (go_at_call 18; refine (pAsks HZP.out z).mono ?_; rintro r w5 ⟨rfl, h5⟩; have H5 := Lib.hid h5; clear h5))
                go_roundg ((n : Int) + 1 - (z + 1)).toNat
                case measure => rw [HG.out]; omega
                case rel => exact ⟨z + 1, rfl, by omega, by omega, rfl, H5.out⟩
              · have hzm' : (n : Int) < z := by omega
                go_wp2_with fail
                go_roundg (len - (k + 1))
                case measure => rw [HGK.out]; omega
                case rel => exact ⟨n, k + 1, pa2, ca2, room, vs2, rfl, by go_num, by omega, by omega, rfl, HZP.out⟩
          · have HI := Lib.hid HA.out.forget
            have f0 : (d == 0) = false := by simpa using e0
            have f1 : (d == 1) = false := by simpa using e1
            have f2 : (d == 2) = false := by simpa using e2
            go_wp2_with fail
            go_loopg [20] (n + 2) (fun g c wi => ∃ z : Int, c = .int .i64 z ∧ -1 ≤ z ∧ z ≤ n + 1 ∧ g = ((n : Int) + 1 - z).toNat ∧ Play w.heap.size w wi none w.heap.size n room vs (.slice pa n ca) n room vs)
            case atStart => exact ⟨-1, rfl, by omega, by omega, by omega, HI.out⟩
            case round =>
              obtain ⟨z, rfl, hz1, hz2, hg, hpz⟩ := hrel
              have HZP := Lib.hid hpz
              have HG := Lib.hid hg
              clear hpz hg
              by_cases hzm : z ≤ (n : Int)
              · go_wp2_with (first
                  | (go_at_call 18; refine (pAsks HZP.out z).mono ?_; rintro r w5 ⟨rfl, h5⟩; have H5 := Lib.hid h5; clear h5))
                go_roundg ((n : Int) + 1 - (z + 1)).toNat
                case measure => rw [HG.out]; omega
                case rel => exact ⟨z + 1, rfl, by omega, by omega, rfl, H5.out⟩
              · have hzm' : (n : Int) < z := by omega
                go_wp2_with fail
                go_roundg (len - (k + 1))
                case measure => rw [HGK.out]; omega
                case rel => exact ⟨n, k + 1, pa, ca, room, vs, rfl, by go_num, by omega, by omega, rfl, HZP.out⟩
    · have hkl : ¬ (k : Int) < (len : Int) := by omega
      have HPB : Hid (Below w.heap.size w wr ∧ w.heap.size ≤ wr.heap.size) := by
        obtain ⟨S, T, hPA⟩ := HP.out
        exact ⟨hPA.bel, hPA.h⟩
      go_wp2_with (first
        | (go_at_call 7; refine (live_c _).mono ?_; rintro e w6 ⟨rfl, hl⟩))
      go_ret
      exact ⟨rfl, HPB.out.1.trans (hl.mono HPB.out.2)⟩
end Go.Proofs.Ytnaioobndgflmaa
