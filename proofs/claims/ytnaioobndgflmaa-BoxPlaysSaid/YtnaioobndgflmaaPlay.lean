/- BoxPlays: the mailboxes and the reference's boxes, side by side; each call and its answer in the reference. For every heap. -/
import Derived.Test.YtnaioobndgflmaaAsks
namespace Go.Proofs.Ytnaioobndgflmaa
open Go Go.RowKit Go.Deep
set_option linter.unusedVariables false

/-- the mailboxes B, the reference's boxes v, apart; all below H as it was; a block that holds o. -/
structure PlayAt (S T : Nat → Prop) (H : Nat) (w0 w : World) (Ac : Option (Nat × Obj)) (B n : Nat) (room : Nat → Nat) (vs : Nat → List Int) (v : Value) (n' : Nat) (room' : Nat → Nat) (vs' : Nat → List Int) : Prop where
  bx : Bx S w B n room vs
  rf : Ref T w v n' room' vs'
  s : ∀ j, S j → H ≤ j ∧ j < w.heap.size
  t : ∀ j, T j → j < w.heap.size ∧ ¬ S j
  bel : Below H w0 w
  h : H ≤ w.heap.size
  act : ∀ A o, Ac = some (A, o) → w.heap[A]? = some o ∧ ¬ S A
def Play (H : Nat) (w0 w : World) (Ac : Option (Nat × Obj)) (B n : Nat) (room : Nat → Nat) (vs : Nat → List Int) (v : Value) (n' : Nat) (room' : Nat → Nat) (vs' : Nat → List Int) : Prop := ∃ S T, PlayAt S T H w0 w Ac B n room vs v n' room' vs'

section
variable {H : Nat} {w0 w w' : World} {Ac : Option (Nat × Obj)} {B n n' : Nat} {room room' : Nat → Nat} {vs vs' : Nat → List Int} {v v' : Value} {S T : Nat → Prop}

/-- behind a call that moves the mailboxes. -/
theorem PlayAt.moved (h : PlayAt S T H w0 w Ac B n room vs v n' room' vs') {m : Nat} {room2 : Nat → Nat} {vs2 : Nat → List Int} (hb : Bx (Nxt S w w') w' B m room2 vs2) (hf : Frm S w w') : Play H w0 w' Ac B m room2 vs2 v n' room' vs' := by
  have hsz := hf.size
  refine ⟨Nxt S w w', T, hb, h.rf.keep (fun _ h => h) fun k hk hlt => hf.block k hlt (h.t k hk).2, fun j hj => ?_, fun j hj => ?_, ?_, Nat.le_trans h.h hf.size, fun A o e => ?_⟩
  · rcases hj with hj | hj
    · have := h.s j hj; omega
    · have := h.h; omega
  · have := h.t j hj
    refine ⟨by omega, ?_⟩
    rintro (hj | hj)
    · exact this.2 hj
    · omega
  · exact h.bel.trans (hf.below h.h fun k hk => (h.s k hk).1)
  · obtain ⟨h1, h2⟩ := h.act A o e
    have hlt : A < w.heap.size := (Array.getElem?_eq_some_iff.1 h1).1
    refine ⟨(hf.block A hlt h2).trans h1, ?_⟩
    rintro (hj | hj)
    · exact h2 hj
    · omega
/-- behind a call that only makes anew. -/
theorem PlayAt.below (h : PlayAt S T H w0 w Ac B n room vs v n' room' vs') (hb : Below w.heap.size w w') {m : Nat} {room2 : Nat → Nat} {vs2 : Nat → List Int} (hr : Ref (Nxt T w w') w' v' m room2 vs2) : Play H w0 w' Ac B n room vs v' m room2 vs2 := by
  have hsz := hb.size
  refine ⟨S, Nxt T w w', h.bx.below hb, hr, fun j hj => ?_, fun j hj => ?_, h.bel.trans (hb.mono h.h), Nat.le_trans h.h hb.size, fun A o e => ?_⟩
  · have := h.s j hj; omega
  · rcases hj with hj | hj
    · have := h.t j hj
      exact ⟨by omega, this.2⟩
    · exact ⟨hj.2, fun hs => by have := h.s j hs; omega⟩
  · obtain ⟨h1, h2⟩ := h.act A o e
    exact ⟨(hb.block A (Array.getElem?_eq_some_iff.1 h1).1).trans h1, h2⟩
theorem Play.below (h : Play H w0 w Ac B n room vs v n' room' vs') (hb : Below w.heap.size w w') : Play H w0 w' Ac B n room vs v n' room' vs' := by
  obtain ⟨S, T, h⟩ := h
  exact h.below hb (h.rf.keep (fun k hk => .inl hk) fun k _ hk => hb.block k hk)
theorem below_drewn {k : Nat} {w w' : World} (h : Below k w w') (m : Nat) : Below k w (w'.drewN m) := ⟨h.os, h.tape, h.output, h.size, h.block⟩
theorem Play.slice (h : Play H w0 w Ac B n room vs v n' room' vs') : ∃ pa ca, v = .slice pa n' ca := by
  obtain ⟨S, T, h⟩ := h
  obtain ⟨L, h⟩ := h.rf
  exact ownsRow_len h.row

theorem pMake (h : Play H w0 w Ac B n room vs v n room vs) (hn : n < 1024) (rm : Int) : ∃ (x e : Int) (m : Nat) (room2 : Nat → Nat) (vs2 : Nat → List Int), m ≤ n + 1 ∧
    (Calls Try.prog 9 #[ptr B, .int .i64 rm] w fun r w' => r = .returned (.tuple #[.int .i64 x, .int .i64 e]) ∧ Play H w0 w' Ac B m room2 vs2 v n room vs) ∧
    ∀ w', Play H w0 w' Ac B m room2 vs2 v n room vs → Calls Try.prog 15 #[v, .int .i64 rm] w' fun r w2 => ∃ pa ca, r = .returned (.tuple #[.slice pa m ca, .int .i64 x, .int .i64 e]) ∧ Play H w0 w2 Ac B m room2 vs2 (.slice pa m ca) m room2 vs2 := by
  by_cases hr : rm < 1 ∨ 1024 < rm
  · refine ⟨0, 9, n, room, vs, by omega, (make_range B rm w hr).mono ?_, fun w' h' => (ref_make_range v rm w' hr).mono ?_⟩
    · rintro r w' ⟨rfl, rfl⟩
      exact ⟨rfl, h⟩
    · rintro r w' ⟨rfl, rfl⟩
      obtain ⟨pa, ca, rfl⟩ := h'.slice
      exact ⟨pa, ca, rfl, h'⟩
  · obtain ⟨k, rfl⟩ : ∃ k : Nat, rm = k := ⟨rm.toNat, by omega⟩
    obtain ⟨S, T, hA⟩ := h
    refine ⟨n, 0, n + 1, fset room n k, fset vs n [], by omega, (make_in hA.bx hn k (by omega) (by omega)).mono ?_, fun w' h' => ?_⟩
    · rintro r w' ⟨rfl, hb, hf⟩
      exact ⟨rfl, hA.moved hb hf⟩
    · obtain ⟨S', T', h'⟩ := h'
      refine (ref_make h'.rf hn k (by omega) (by omega)).mono ?_
      rintro r w2 ⟨v', rfl, hr', hb⟩
      have hp := h'.below hb hr'
      obtain ⟨pa, ca, rfl⟩ := hp.slice
      exact ⟨pa, ca, rfl, hp⟩

theorem pSend (h : Play H w0 w Ac B n room vs v n room vs) (i x : Int) : ∃ (e : Int) (vs2 : Nat → List Int),
    (Calls Try.prog 12 #[ptr B, .int .i64 i, .int .u64 x] w fun r w' => r = .returned (.int .i64 e) ∧ Play H w0 w' Ac B n room vs2 v n room vs) ∧
    ∀ w', Play H w0 w' Ac B n room vs2 v n room vs → Calls Try.prog 16 #[v, .int .i64 i, .int .u64 x] w' fun r w2 => ∃ pa ca, r = .returned (.tuple #[.slice pa n ca, .int .i64 e]) ∧ Play H w0 w2 Ac B n room vs2 (.slice pa n ca) n room vs2 := by
  have hsl := h.slice
  obtain ⟨pa, ca, rfl⟩ := hsl
  obtain ⟨S, T, hA⟩ := id h
  by_cases hi : i < 0 ∨ (n : Int) ≤ i
  · refine ⟨1, vs, (send_out hA.bx i x hi).mono ?_, fun w' h' => (ref_send_out pa n ca i x w' hi).mono ?_⟩
    · rintro r w' ⟨rfl, rfl⟩
      exact ⟨rfl, h⟩
    · rintro r w' ⟨rfl, rfl⟩
      exact ⟨pa, ca, rfl, h'⟩
  · obtain ⟨k, rfl⟩ : ∃ k : Nat, i = k := ⟨i.toNat, by omega⟩
    have hk : k < n := by omega
    have hrm := hA.bx.room_le hk
    by_cases hf : (vs k).length = room k
    · refine ⟨7, vs, (send_full hA.bx k x hk hf).mono ?_, fun w' h' => ?_⟩
      · rintro r w' ⟨rfl, rfl⟩
        exact ⟨rfl, h⟩
      · obtain ⟨S', T', hB⟩ := id h'
        refine (ref_send_full hB.rf k x hk hf).mono ?_
        rintro r w' ⟨rfl, m, rfl⟩
        exact ⟨pa, ca, rfl, h'.below (below_drewn (Below.refl _ _) m)⟩
    · refine ⟨0, fset vs k (vs k ++ [x]), (send_in hA.bx k x hk (by omega)).mono ?_, fun w' h' => ?_⟩
      · rintro r w' ⟨rfl, hb, hf⟩
        exact ⟨rfl, hA.moved hb hf⟩
      · obtain ⟨S', T', hB⟩ := h'
        obtain ⟨A, Rm, rb, V, cap, first, y, hBA⟩ := id hB.bx
        refine (ref_send hB.rf (by have := hBA.many; omega) k x hk (by omega) hrm.2.2).mono ?_
        rintro r w2 ⟨v', rfl, hr', hb⟩
        have hp := hB.below hb hr'
        obtain ⟨pa, ca, rfl⟩ := hp.slice
        exact ⟨pa, ca, rfl, hp⟩

theorem pRecv (h : Play H w0 w Ac B n room vs v n room vs) (i : Int) : ∃ (x e : Int) (vs2 : Nat → List Int),
    (Calls Try.prog 13 #[ptr B, .int .i64 i] w fun r w' => r = .returned (.tuple #[.int .u64 x, .int .i64 e]) ∧ Play H w0 w' Ac B n room vs2 v n room vs) ∧
    ∀ w', Play H w0 w' Ac B n room vs2 v n room vs → Calls Try.prog 17 #[v, .int .i64 i] w' fun r w2 => ∃ pa ca, r = .returned (.tuple #[.slice pa n ca, .int .u64 x, .int .i64 e]) ∧ Play H w0 w2 Ac B n room vs2 (.slice pa n ca) n room vs2 := by
  have hsl := h.slice
  obtain ⟨pa, ca, rfl⟩ := hsl
  obtain ⟨S, T, hA⟩ := id h
  by_cases hi : i < 0 ∨ (n : Int) ≤ i
  · refine ⟨0, 1, vs, (recv_out hA.bx i hi).mono ?_, fun w' h' => (ref_recv_out pa n ca i w' hi).mono ?_⟩
    · rintro r w' ⟨rfl, rfl⟩
      exact ⟨rfl, h⟩
    · rintro r w' ⟨rfl, rfl⟩
      exact ⟨pa, ca, rfl, h'⟩
  · obtain ⟨k, rfl⟩ : ∃ k : Nat, i = k := ⟨i.toNat, by omega⟩
    have hk : k < n := by omega
    have hrm := hA.bx.room_le hk
    cases hf : vs k with
    | nil =>
      have h0 : (vs k).length = 0 := by rw [hf]; rfl
      refine ⟨0, 7, vs, (recv_empty hA.bx k hk h0).mono ?_, fun w' h' => ?_⟩
      · rintro r w' ⟨rfl, rfl⟩
        exact ⟨rfl, h⟩
      · obtain ⟨S', T', hB⟩ := id h'
        refine (ref_recv_empty hB.rf k hk h0).mono ?_
        rintro r w' ⟨rfl, rfl⟩
        exact ⟨pa, ca, rfl, h'⟩
    | cons x rest =>
      refine ⟨x, 0, fset vs k rest, (recv_in hA.bx k hk hf).mono ?_, fun w' h' => ?_⟩
      · rintro r w' ⟨rfl, hb, hf⟩
        exact ⟨rfl, hA.moved hb hf⟩
      · obtain ⟨S', T', hB⟩ := h'
        obtain ⟨A, Rm, rb, V, cap, first, y, hBA⟩ := id hB.bx
        refine (ref_recv hB.rf (by have := hBA.many; omega) k hk hf (by rw [hf] at hrm; simp only [List.length_cons] at hrm; omega)).mono ?_
        rintro r w2 ⟨v', rfl, hr', hb⟩
        have hp := hB.below hb hr'
        obtain ⟨pa, ca, rfl⟩ := hp.slice
        exact ⟨pa, ca, rfl, hp⟩

theorem pAsks (h : Play H w0 w Ac B n room vs v n room vs) (k : Int) : Calls Try.prog 18 #[ptr B, v, .int .i64 k] w fun r w' => r = .returned (.bool true) ∧ Play H w0 w' Ac B n room vs v n room vs := by
  obtain ⟨pa, ca, rfl⟩ := h.slice
  obtain ⟨S, T, hA⟩ := id h
  by_cases hi : k < 0 ∨ (n : Int) ≤ k
  · refine (asks_out hA.bx pa ca k hi).mono ?_
    rintro r w' ⟨rfl, rfl⟩
    exact ⟨rfl, h⟩
  · obtain ⟨i, rfl⟩ : ∃ i : Nat, k = i := ⟨k.toNat, by omega⟩
    refine (asks_in hA.bx hA.rf i (by omega)).mono ?_
    rintro r w' ⟨rfl, hb⟩
    exact ⟨rfl, h.below hb⟩

theorem play_new {w w1 : World} (h : BxH w.heap.size w w1 w.heap.size 0 (fun _ => 0) (fun _ => [])) (hlt : w.heap.size < w1.heap.size) (hS : Bx (fun k => k = w.heap.size) w1 w.heap.size 0 (fun _ => 0) (fun _ => [])) : Play w.heap.size w w1 none w.heap.size 0 (fun _ => 0) (fun _ => []) (.slice none 0 0) 0 (fun _ => 0) (fun _ => []) :=
  ⟨fun k => k = w.heap.size, fun _ => False, hS, ⟨fun _ => .slice none 0 0, World.ownsRow_nil _ _ _ _, fun g hg => by simp [Value.ownBlock] at hg, fun j hj => by omega⟩, fun j hj => by omega, fun j hj => hj.elim, h.2.1, h.2.2, fun A o e => by cases e⟩
theorem newP (w : World) : Calls Try.prog 8 #[] w fun r w' => r = .returned (ptr w.heap.size) ∧ Play w.heap.size w w' none w.heap.size 0 (fun _ => 0) (fun _ => []) (.slice none 0 0) 0 (fun _ => 0) (fun _ => []) := by
  refine (new_c w).mono ?_
  rintro r w' ⟨rfl, hb, hbl, hs⟩
  exact ⟨rfl, play_new ⟨hb.keep (fun k hk => by rw [hk]; exact Nat.le_refl _) fun _ _ _ => rfl, hbl, Nat.le_of_lt hs⟩ hs hb⟩
theorem Play.forget (h : Play H w0 w Ac B n room vs v n' room' vs') : Play H w0 w none B n room vs v n' room' vs' := by
  obtain ⟨S, T, h⟩ := h
  exact ⟨S, T, h.bx, h.rf, h.s, h.t, h.bel, h.h, fun A o e => by cases e⟩
/-- a block made anew is remembered. -/
theorem Play.made (h : Play H w0 w Ac B n room vs v n' room' vs') (hb : Below w.heap.size w w') {o : Obj} (ho : w'.heap[w.heap.size]? = some o) : Play H w0 w' (some (w.heap.size, o)) B n room vs v n' room' vs' := by
  obtain ⟨S, T, h⟩ := h
  obtain ⟨S', T', k⟩ := Play.below ⟨S, T, h⟩ hb
  refine ⟨S, Nxt T w w', h.bx.below hb, h.rf.keep (fun k hk => .inl hk) fun k _ hk => hb.block k hk, fun j hj => ?_, fun j hj => ?_, k.bel, k.h, fun A o' e => ?_⟩
  · have := h.s j hj; have := hb.size; omega
  · rcases hj with hj | hj
    · have ht := h.t j hj
      have := hb.size
      exact ⟨by omega, ht.2⟩
    · exact ⟨hj.2, fun hs => by have := h.s j hs; omega⟩
  · cases e
    exact ⟨ho, fun hs => by have := h.s _ hs; omega⟩
end
end Go.Proofs.Ytnaioobndgflmaa
