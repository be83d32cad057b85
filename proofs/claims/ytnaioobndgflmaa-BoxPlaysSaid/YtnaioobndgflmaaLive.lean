/- The functions of the mailboxes, all blocks from H on being the call's own; the page's example. -/
import Derived.Test.YtnaioobndgflmaaMake
namespace Go.Proofs.Ytnaioobndgflmaa
open Go Go.RowKit Go.Deep
set_option linter.unusedVariables false

/-- the call's own blocks. -/
def Sh (H : Nat) (k : Nat) : Prop := H ≤ k

theorem Bx.toH {H : Nat} {w w' : World} {B n : Nat} {room : Nat → Nat} {vs : Nat → List Int} (hH : H ≤ w.heap.size) (h : Bx (Nxt (Sh H) w w') w' B n room vs) : Bx (Sh H) w' B n room vs :=
  h.keep (fun k hk => by rcases hk with h | h; exact h; exact Nat.le_trans hH h.1) fun _ _ _ => rfl
theorem Frm.toH {H : Nat} {w w' : World} (hH : H ≤ w.heap.size) (h : Frm (Sh H) w w') : Below H w w' := h.below hH fun _ hk => hk

/-- behind a step: the mailboxes, and that all below H is as it was. -/
def BxH (H : Nat) (w0 w : World) (B n : Nat) (room : Nat → Nat) (vs : Nat → List Int) : Prop := Bx (Sh H) w B n room vs ∧ Below H w0 w ∧ H ≤ w.heap.size
theorem BxH.drewN {H : Nat} {w0 w : World} {B n : Nat} {room : Nat → Nat} {vs : Nat → List Int} (h : BxH H w0 w B n room vs) (m : Nat) : BxH H w0 (w.drewN m) B n room vs := ⟨h.1.drewN m, ⟨h.2.1.os, h.2.1.tape, h.2.1.output, h.2.1.size, h.2.1.block⟩, h.2.2⟩
theorem BxH.next {H : Nat} {w0 w w' : World} {B n n' : Nat} {room vs room' vs'} (h : BxH H w0 w B n room vs) (hb : Bx (Nxt (Sh H) w w') w' B n' room' vs') (hf : Frm (Sh H) w w') : BxH H w0 w' B n' room' vs' :=
  ⟨hb.toH h.2.2, h.2.1.trans (hf.toH h.2.2), Nat.le_trans h.2.2 hf.size⟩
theorem BxH.below {H : Nat} {w0 w w' : World} {B n : Nat} {room : Nat → Nat} {vs : Nat → List Int} (h : BxH H w0 w B n room vs) (hb : Below w.heap.size w w') : BxH H w0 w' B n room vs :=
  ⟨h.1.below hb, h.2.1.trans (hb.mono h.2.2), Nat.le_trans h.2.2 hb.size⟩

theorem newH (w : World) : Calls Try.prog 8 #[] w fun r w' => r = .returned (ptr w.heap.size) ∧ BxH w.heap.size w w' w.heap.size 0 (fun _ => 0) (fun _ => []) := by
  refine (new_c w).mono ?_
  rintro r w' ⟨rfl, hb, hbl, hs⟩
  exact ⟨rfl, hb.keep (fun k hk => by rw [hk]; exact Nat.le_refl _) fun _ _ _ => rfl, hbl, Nat.le_of_lt hs⟩
theorem makeH {H : Nat} {w0 w : World} {B n : Nat} {room : Nat → Nat} {vs : Nat → List Int} (h : BxH H w0 w B n room vs) (hn : n < 1024) (rm : Nat) (h1 : 1 ≤ rm) (h2 : rm ≤ 1024) :
    Calls Try.prog 9 #[ptr B, .int .i64 (rm : Int)] w fun r w' => r = .returned (.tuple #[.int .i64 (n : Int), .int .i64 0]) ∧ BxH H w0 w' B (n + 1) (fset room n rm) (fset vs n []) :=
  (make_in h.1 hn rm h1 h2).mono fun r w' ⟨he, hb, hf⟩ => ⟨he, h.next hb hf⟩
theorem sendH {H : Nat} {w0 w : World} {B n : Nat} {room : Nat → Nat} {vs : Nat → List Int} (h : BxH H w0 w B n room vs) (i : Nat) (v : Int) (hi : i < n) (hf : (vs i).length < room i) :
    Calls Try.prog 12 #[ptr B, .int .i64 (i : Int), .int .u64 v] w fun r w' => r = .returned (.int .i64 0) ∧ BxH H w0 w' B n room (fset vs i (vs i ++ [v])) :=
  (send_in h.1 i v hi hf).mono fun r w' ⟨he, hb, hf⟩ => ⟨he, h.next hb hf⟩
theorem recvH {H : Nat} {w0 w : World} {B n : Nat} {room : Nat → Nat} {vs : Nat → List Int} (h : BxH H w0 w B n room vs) (i : Nat) (hi : i < n) {x : Int} {rest : List Int} (hx : vs i = x :: rest) :
    Calls Try.prog 13 #[ptr B, .int .i64 (i : Int)] w fun r w' => r = .returned (.tuple #[.int .u64 x, .int .i64 0]) ∧ BxH H w0 w' B n room (fset vs i rest) :=
  (recv_in h.1 i hi hx).mono fun r w' ⟨he, hb, hf⟩ => ⟨he, h.next hb hf⟩
theorem Ring.room_le {S w R room vs V cap first y} (h : Ring S w R room vs V cap first y) : vs.length ≤ room := Nat.le_trans h.len h.fits
theorem Bx.room_le {S : Nat → Prop} {w : World} {B n : Nat} {room : Nat → Nat} {vs : Nat → List Int} (h : Bx S w B n room vs) {i : Nat} (hi : i < n) : (vs i).length ≤ room i ∧ 1 ≤ room i ∧ room i ≤ 1024 := by
  obtain ⟨A, Rm, rb, V, cap, first, y, h⟩ := h
  exact ⟨(h.ring i hi).room_le, (h.ring i hi).one, (h.ring i hi).most⟩

theorem makeI {H : Nat} {w0 w : World} {B n : Nat} {room : Nat → Nat} {vs : Nat → List Int} (h : BxH H w0 w B n room vs) (hn : n < 1024) (rm n' : Int) (hn' : n' = n) (h1 : 1 ≤ rm) (h2 : rm ≤ 1024) :
    Calls Try.prog 9 #[ptr B, .int .i64 rm] w fun r w' => r = .returned (.tuple #[.int .i64 n', .int .i64 0]) ∧ BxH H w0 w' B (n + 1) (fset room n rm.toNat) (fset vs n []) := by
  obtain ⟨k, rfl⟩ : ∃ k : Nat, rm = k := ⟨rm.toNat, by omega⟩
  subst hn'
  exact makeH h hn k (by omega) (by omega)
theorem sendI {H : Nat} {w0 w : World} {B n : Nat} {room : Nat → Nat} {vs : Nat → List Int} (h : BxH H w0 w B n room vs) (i v : Int) (k : Nat) (hk : i = k) (hi : k < n) (hf : (vs k).length < room k) :
    Calls Try.prog 12 #[ptr B, .int .i64 i, .int .u64 v] w fun r w' => r = .returned (.int .i64 0) ∧ BxH H w0 w' B n room (fset vs k (vs k ++ [v])) := by
  subst hk
  exact sendH h k v hi hf
theorem fullI {S : Nat → Prop} {w : World} {B n : Nat} {room : Nat → Nat} {vs : Nat → List Int} (h : Bx S w B n room vs) (i v : Int) (k : Nat) (hk : i = k) (hi : k < n) (hf : (vs k).length = room k) :
    Calls Try.prog 12 #[ptr B, .int .i64 i, .int .u64 v] w fun r w' => r = .returned (.int .i64 7) ∧ w = w' := by
  subst hk
  exact send_full h k v hi hf
theorem recvI {H : Nat} {w0 w : World} {B n : Nat} {room : Nat → Nat} {vs : Nat → List Int} (h : BxH H w0 w B n room vs) (i : Int) (k : Nat) (hk : i = k) (hi : k < n) (x : Int) (rest : List Int) (hx : vs k = x :: rest) :
    Calls Try.prog 13 #[ptr B, .int .i64 i] w fun r w' => r = .returned (.tuple #[.int .u64 x, .int .i64 0]) ∧ BxH H w0 w' B n room (fset vs k rest) := by
  subst hk
  exact recvH h k hi hx
theorem emptyI {S : Nat → Prop} {w : World} {B n : Nat} {room : Nat → Nat} {vs : Nat → List Int} (h : Bx S w B n room vs) (i : Int) (k : Nat) (hk : i = k) (hi : k < n) (hf : (vs k).length = 0) :
    Calls Try.prog 13 #[ptr B, .int .i64 i] w fun r w' => r = .returned (.tuple #[.int .u64 0, .int .i64 7]) ∧ w = w' := by
  subst hk
  exact recv_empty h k hi hf
theorem isEmptyI {S : Nat → Prop} {w : World} {B n : Nat} {room : Nat → Nat} {vs : Nat → List Int} (h : Bx S w B n room vs) (i : Int) (k : Nat) (hk : i = k) (hi : k < n) (b : Bool) (hb : b = decide ((vs k).length = 0)) :
    Calls Try.prog 20 #[ptr B, .int .i64 i] w fun r w' => r = .returned (.bool b) ∧ w = w' := by
  subst hk hb
  exact empty_in h k hi
theorem isFullI {S : Nat → Prop} {w : World} {B n : Nat} {room : Nat → Nat} {vs : Nat → List Int} (h : Bx S w B n room vs) (i : Int) (k : Nat) (hk : i = k) (hi : k < n) (b : Bool) (hb : b = decide ((vs k).length = room k)) :
    Calls Try.prog 11 #[ptr B, .int .i64 i] w fun r w' => r = .returned (.bool b) ∧ w = w' := by
  subst hk hb
  exact full_in h k hi
theorem lenI {S : Nat → Prop} {w : World} {B n : Nat} {room : Nat → Nat} {vs : Nat → List Int} (h : Bx S w B n room vs) (i : Int) (k : Nat) (hk : i = k) (hi : k < n) (l : Int) (hl : l = (vs k).length) :
    Calls Try.prog 14 #[ptr B, .int .i64 i] w fun r w' => r = .returned (.tuple #[.int .i64 l, .int .i64 0]) ∧ w = w' := by
  subst hk hl
  exact len_in h k hi

set_option maxHeartbeats 1000000 in
theorem live_c (w : World) : Calls Try.prog 7 #[] w fun r w' => r = .returned (.bool true) ∧ Below w.heap.size w w' := by
  go_enter Try.func7, Try.ntmps7
  go_wp2_with (first
    | (go_at_call 8; refine (newH w).mono ?_; rintro r w1 ⟨rfl, h1⟩; have H1 := Lib.hid h1; clear h1)
    | (go_at_call 9; refine (makeI H1.out (by omega) 1 0 rfl (by omega) (by omega)).mono ?_; rintro r w2 ⟨rfl, h2⟩; have H2 := Lib.hid h2; clear h2))
  go_at_call 12; refine (sendI H2.out 0 4 0 rfl (by omega) (by simp [fset])).mono ?_; rintro r w3 ⟨rfl, h3⟩; have H3 := Lib.hid h3; clear h3
  go_wp2_with fail
  go_at_call 12; refine (fullI H3.out.1 0 8 0 rfl (by omega) (by simp [fset])).mono ?_; rintro r w' ⟨rfl, rfl⟩
  go_wp2_with fail
  go_at_call 13; refine (recvI H3.out 0 0 rfl (by omega) 4 [] (by simp [fset])).mono ?_; rintro r w4 ⟨rfl, h4⟩; have H4 := Lib.hid h4; clear h4
  go_wp2_with fail
  go_at_call 13; refine (emptyI H4.out.1 0 0 rfl (by omega) (by simp [fset])).mono ?_; rintro r w' ⟨rfl, rfl⟩
  go_wp2_with (first
    | (go_at_call 10; refine (num_c _ _).mono ?_; rintro r w' ⟨rfl, rfl⟩)
    | (go_at_call 20; refine (isEmptyI H4.out.1 0 0 rfl (by omega) true (by simp [fset])).mono ?_; rintro r w' ⟨rfl, rfl⟩))
  go_ret
  exact ⟨rfl, H4.out.2.1⟩
end Go.Proofs.Ytnaioobndgflmaa
