/- BoxPlays: all that can be asked of a number is answered as the reference answers. For every heap. -/
import Derived.Test.YtnaioobndgflmaaRefSend
namespace Go.Proofs.Ytnaioobndgflmaa
open Go Go.RowKit Go.Deep
set_option linter.unusedVariables false

set_option maxRecDepth 100000 in
set_option maxHeartbeats 1000000 in
theorem asks_out {S : Nat → Prop} {w : World} {B n : Nat} {room : Nat → Nat} {vs : Nat → List Int} (h : Bx S w B n room vs) (pa : Option Addr) (ca : Nat) (k : Int) (hk : k < 0 ∨ (n : Int) ≤ k) :
    Calls Try.prog 18 #[ptr B, .slice pa n ca, .int .i64 k] w fun r w' => r = .returned (.bool true) ∧ w = w' := by
  have H := Lib.hid h
  have key : (decide (k < 0) || decide ((n : Int) ≤ k)) = true := by simp; omega
  clear h
  go_enter Try.func18, Try.ntmps18
  go_wp2_with (first
    | (go_at_call 14; refine (len_out H.out k hk).mono ?_; rintro r w' ⟨rfl, rfl⟩)
    | (go_at_call 19; refine (all_out H.out k hk).mono ?_; rintro r w' ⟨rfl, rfl⟩)
    | (go_at_call 10; refine (num_c _ _).mono ?_; rintro r w' ⟨rfl, rfl⟩)
    | (go_at_call 11; refine (full_out H.out k hk).mono ?_; rintro r w' ⟨rfl, rfl⟩)
    | (go_at_call 20; refine (empty_out H.out k hk).mono ?_; rintro r w' ⟨rfl, rfl⟩))
  all_goals
    go_ret
    exact ⟨rfl, rfl⟩

theorem quiet_sym {f : FuncId} {args : Array Value} {w : World} {n : Nat} {v : Value} (h : Calls Try.prog f args (w.drewN n) fun e w' => e = .returned v ∧ w.drewN n = w') : Calls Try.prog f args (w.drewN n) fun e w'' => e = .returned v ∧ ∃ m, w'' = w.drewN m :=
  Calls.quiet_of_same (h.mono fun _ _ ⟨a, b⟩ => ⟨a, b.symm⟩)
theorem Nums.ofOwn {w : World} {base : Nat} {ap : Option Addr} {n cap : Nat} {l : List Int} (h : w.ownsRow base 33 1 (.slice ap n cap) n (l.map (Value.int .u64))) : Nums w ap l := by
  obtain ⟨pa, c, e, _, hn, _⟩ := Lrow.ofOwn (T := fun _ => True) h fun _ _ => trivial
  cases e
  exact hn

set_option maxRecDepth 100000 in
set_option maxHeartbeats 4000000 in
theorem asks_in {S T : Nat → Prop} {w : World} {B n : Nat} {room : Nat → Nat} {vs : Nat → List Int} {v : Value} (h : Bx S w B n room vs) (hv : Ref T w v n room vs) (i : Nat) (hi : i < n) :
    Calls Try.prog 18 #[ptr B, v, .int .i64 (i : Int)] w fun r w' => r = .returned (.bool true) ∧ Below w.heap.size w w' := by
  obtain ⟨L, hA⟩ := hv
  obtain ⟨g, ca, rfl⟩ := ownsRow_slice hA.row (by omega)
  obtain ⟨pl, cl, hL, hcl, hnl, hpl⟩ := hA.vals i hi
  obtain ⟨l, hl⟩ : ∃ l, l = vs i := ⟨_, rfl⟩
  have hrm := h.room_le hi
  rw [← hl] at hL hcl hnl hrm
  have k0 : w.cell? ⟨g, i * 2, none⟩ = some (.int .i64 (room i : Int)) := ownsRow_at hA.row (rcell_room n i hi room L)
  have k1 : w.cell? ⟨g, i * 2 + 1, none⟩ = some (.slice pl l.length cl) := by rw [← hL]; exact ownsRow_at hA.row (rcell_vals n i hi room L)
  have hgl := (hA.row.lt g rfl).2
  have hin : (i : Int) < (n : Int) := by omega
  have hll : l.length ≤ 1024 := by omega
  have H := Lib.hid h
  have HL := Lib.hid hl
  have HN := Lib.hid hnl
  obtain ⟨full, hfull⟩ : ∃ b, b = decide (l.length = room i) := ⟨_, rfl⟩
  obtain ⟨empty, hempty⟩ : ∃ b, b = decide (l.length = 0) := ⟨_, rfl⟩
  have key1 : (full == ((l.length : Int) == (room i : Int))) = true := by rw [hfull, beq_cast]; simp
  have key2 : (empty == ((l.length : Int) == 0)) = true := by rw [hempty, beq_cast0]; simp
  have HF := Lib.hid hfull
  have HE := Lib.hid hempty
  clear hA hL hcl hnl hpl hl h hrm hfull hempty
  go_enter Try.func18, Try.ntmps18
  go_wp2_with (first
    | (go_at_call 14; refine (len_in H.out i hi).mono ?_; rw [← HL.out]; rintro r w' ⟨rfl, rfl⟩)
    | (go_at_call 19; refine (all_in H.out i hi).mono ?_; rw [← HL.out]; rintro r w1 ⟨v1, rfl, hown, hbl⟩
       obtain ⟨pa, ca1, rfl⟩ := ownsRow_len hown
       have j0 : w1.cell? ⟨g, i * 2, none⟩ = some (.int .i64 (room i : Int)) := (hbl.cell (p := ⟨g, i * 2, none⟩) hgl).trans k0
       have j1 : w1.cell? ⟨g, i * 2 + 1, none⟩ = some (.slice pl l.length cl) := (hbl.cell (p := ⟨g, i * 2 + 1, none⟩) hgl).trans k1
       have H1 := Lib.hid (H.out.below hbl)
       have HA1 := Lib.hid (Nums.ofOwn hown)
       have HB1 : Hid (Nums w1 pl l) := HN.out.keep fun ad e hlt => hbl.block _ hlt
       have HBL := Lib.hid hbl
       have HFU : Hid (∀ m, Calls Try.prog 11 #[ptr B, .int .i64 (i : Int)] (w1.drewN m) fun r w' => r = .returned (.bool full) ∧ w1.drewN m = w') := fun m => by have := full_in (H1.out.drewN m) i hi; rw [← HL.out, ← HF.out] at this; exact this
       have HEM : Hid (∀ m, Calls Try.prog 20 #[ptr B, .int .i64 (i : Int)] (w1.drewN m) fun r w' => r = .returned (.bool empty) ∧ w1.drewN m = w') := fun m => by have := empty_in (H1.out.drewN m) i hi; rw [← HL.out, ← HE.out] at this; exact this
       clear hown hbl))
  go_quiet (first
    | (go_at_call 10; refine quiet_sym (num_c _ _))
    | (go_at_call 11; refine quiet_sym (HFU.out _))
    | (go_at_call 20; refine quiet_sym (HEM.out _))
    | (go_at_call 21; refine Calls.quiet_of (same_c l l.length _ _ _ _ _ rfl (by omega) HA1.out HB1.out)))
  go_wp2
  go_ret
  exact ⟨rfl, HBL.out.os, HBL.out.tape, HBL.out.output, HBL.out.size, HBL.out.block⟩
end Go.Proofs.Ytnaioobndgflmaa
