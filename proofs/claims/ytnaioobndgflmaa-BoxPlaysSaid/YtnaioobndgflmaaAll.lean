/- All: what is in a box, in order, in new memory. For every heap. -/
import Derived.Test.YtnaioobndgflmaaLive
import Derived.Deep.LoopGhost
import Derived.Deep.RegionLaw
namespace Go.Proofs.Ytnaioobndgflmaa
open Go Go.RowKit Go.Deep
set_option linter.unusedVariables false

theorem all_out {S : Nat → Prop} {w : World} {B n : Nat} {room : Nat → Nat} {vs : Nat → List Int} (h : Bx S w B n room vs) (i : Int) (hi : i < 0 ∨ (n : Int) ≤ i) :
    Calls Try.prog 19 #[ptr B, .int .i64 i] w fun r w' => r = .returned (.tuple #[.slice none 0 0, .int .i64 1]) ∧ w = w' := by
  go_enter Try.func19, Try.ntmps19
  go_wp2_with (go_at_call 22; refine (find_out h i hi).mono ?_; rintro r w' ⟨rfl, rfl⟩)
  go_ret2
  exact ⟨rfl, rfl⟩

/-- the first k values as cells. -/
def vals (l : List Int) (k : Nat) : List Value := (l.take k).map (Value.int .u64)
/-- before each round. -/
def AllInv (w : World) (l : List Int) (out c : Value) (wr : World) : Prop :=
  ∃ k : Nat, c = .int .i64 (k : Int) ∧ k ≤ l.length ∧ wr.ownsRow w.heap.size 33 1 out k (vals l k) ∧ Below w.heap.size w wr

set_option maxRecDepth 100000 in
set_option maxHeartbeats 4000000 in
theorem all_in {S : Nat → Prop} {w : World} {B n : Nat} {room : Nat → Nat} {vs : Nat → List Int} (h : Bx S w B n room vs) (i : Nat) (hi : i < n) :
    Calls Try.prog 19 #[ptr B, .int .i64 (i : Int)] w fun r w' => ∃ v, r = .returned (.tuple #[v, .int .i64 0]) ∧ w'.ownsRow w.heap.size 33 1 v (vs i).length ((vs i).map (Value.int .u64)) ∧ Below w.heap.size w w' := by
  obtain ⟨A, Rm, rb, V, cap, first, y, hA⟩ := id h
  have hr := hA.ring i hi
  have hcap : cap i ≤ 1024 := Nat.le_trans hr.fits hr.most
  have hlen := hr.len
  obtain ⟨l, hl⟩ : ∃ l, l = vs i := ⟨_, rfl⟩
  have k2 : w.cell? ⟨rb i, 2, none⟩ = some (.int .i64 (l.length : Int)) := by rw [hl]; exact hr.head.cell (by omega)
  have hll : l.length ≤ 1024 := by rw [hl]; omega
  obtain ⟨i33, hi33, hz0, hz1, hz2⟩ := info_parts info33
  have HI := Lib.hid hi33
  have HI0 := Lib.hid hz0
  have HI1 := Lib.hid hz1
  have HI2 := Lib.hid hz2
  have HA := Lib.hid hA
  have HR := Lib.hid hr
  have HL := Lib.hid hl
  clear hi33 hz0 hz1 hz2 hA hr hl
  go_enter Try.func19, Try.ntmps19
  go_wp2_with (go_at_call 22; refine (find_in HA.out i hi).mono ?_; rintro r w' ⟨rfl, rfl⟩)
  go_loopw [8, 23] (fun out c wr => AllInv w l out c wr) (fun _ c _ => l.length - (intOf c).toNat)
  case atStart => exact ⟨0, rfl, Nat.zero_le _, by simpa [vals] using World.ownsRow_nil w w.heap.size 33 1, Below.refl _ _⟩
  case round =>
    obtain ⟨k, rfl, hk, hown, hbel⟩ := hrel
    have HO := Lib.hid hown
    have HB := Lib.hid hbel
    clear hown hbel
    by_cases hlt : k < l.length
    · have hc0 : 0 < cap i := by have := HR.out.len; rw [← HL.out] at this; omega
      have hfc : first i < cap i := by rcases HR.out.frst with h | h <;> omega
      obtain ⟨g, hV, hy⟩ : ∃ g, V i = .slice (some ⟨g, 0, none⟩) (cap i) (cap i) ∧ w.rowIs g 33 (cap i) (y i) := by
        rcases HR.out.row with ⟨h0, _⟩ | ⟨_, g, h1, h2⟩
        · omega
        · exact ⟨g, h1, h2⟩
      have hh := HR.out.head
      rw [hV] at hh
      have hRl := hh.lt
      have hgl := hy.lt
      have c0 : wr.cell? ⟨rb i, 0, none⟩ = some (.slice (some ⟨g, 0, none⟩) (cap i) (cap i)) := (HB.out.cell (p := ⟨rb i, 0, none⟩) hRl).trans (hh.cell (by omega))
      have c1 : wr.cell? ⟨rb i, 1, none⟩ = some (.int .i64 (first i : Int)) := (HB.out.cell (p := ⟨rb i, 1, none⟩) hRl).trans (hh.cell (by omega))
      obtain ⟨p, hp⟩ : ∃ p, p = (first i + k) % cap i := ⟨_, rfl⟩
      have hpc : p < cap i := by rw [hp]; exact Nat.mod_lt _ hc0
      obtain ⟨x, hx⟩ : ∃ x, x = l.getD k 0 := ⟨_, rfl⟩
      have cp : wr.cell? ⟨g, p, none⟩ = some (.int .u64 x) := by
        rw [hx, HB.out.cell (p := ⟨g, p, none⟩) hgl, hy.cell hpc, hp, HR.out.at_ k (by rw [← HL.out]; omega), HL.out]
      have hpi : (p : Int) < (cap i : Int) := by omega
      have hki : (k : Int) < (l.length : Int) := by omega
      have HP := Lib.hid hp
      have hsz := HB.out.size
      have HX := Lib.hid hx
      clear hp hy hh hx
      go_wp2_with fail
      go_region_law (first
        | (go_simp; go_at_call 24; refine (at_c (rb i) (first i) k (cap i) (some ⟨g, 0, none⟩) _ (by assumption) (by assumption) hc0 hcap (by omega) (by omega)).mono ?_; rw [← HP.out]; rintro r w' ⟨rfl, m, rfl⟩)
        | (refine step_append_lies _ rfl (.tmp 26) (.tmp 36) 49 rfl w.heap.size 33 i33 (.int .u64 0) 1 8 Try.underlying49 HI.out HI0.out HI1.out HI2.out rfl (by decide) u8 k (vals l k) (by first | rfl | simp [Act.eval, Act.put]) (World.ownsRow.alloc (w := wr.drewN _) HO.out _) ⟨wr.heap.size, 0, none⟩ 1 1 [.int .u64 x] (by first | rfl | simp [Act.eval, Act.put]) rfl
            (World.news_of_block (cs := #[.int .u64 x]) (t := 33) (fr := (0, 0)) (heap_alloc_new (wr.drewN _) _)) (by simp [Value.oneCell']) (by decide) (by unfold maxLen; omega) (by omega) (by rw [nblk_alloc]; exact Nat.le_succ_of_le hsz) _ rfl ?_; intro g2 cp2 w2 hown hgrow hg hgl))
      all_goals
        have hb2 : Below w.heap.size w w2 := Below.grown (Below.alloc (w := wr.drewN (1 + m)) ⟨HB.out.os, HB.out.tape, HB.out.output, HB.out.size, HB.out.block⟩ hsz _) hgrow (by rw [nblk_alloc]; exact Nat.le_succ_of_le hsz) (fun k hk => (HO.out.lt k hk).1)
        have ho2 : w2.ownsRow w.heap.size 33 1 (.slice (some ⟨g2, 0, none⟩) (k + 1) cp2) (k + 1) (vals l (k + 1)) := by
          have e : vals l k ++ [Value.int .u64 x] = vals l (k + 1) := by
            unfold vals
            rw [HX.out, List.take_add_one, List.map_append, List.getElem?_eq_getElem hlt]
            simp [List.getD, List.getElem?_eq_getElem hlt]
          rw [← e]
          exact hown
        clear hown hgrow hg hgl
        go_wp2_with fail
        go_roundw
        case rel => exact ⟨k + 1, by go_num, by omega, ho2, hb2⟩
        case measure => simp [intOf]; omega
    · have hkl : k = l.length := by omega
      subst hkl
      go_wp2_with fail
      go_ret2
      refine ⟨_, rfl, ?_, HB.out⟩
      have := HO.out
      rw [vals, List.take_length] at this
      rw [← HL.out]
      exact this
end Go.Proofs.Ytnaioobndgflmaa
