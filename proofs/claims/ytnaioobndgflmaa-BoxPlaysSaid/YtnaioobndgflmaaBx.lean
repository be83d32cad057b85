/- Mailboxes in memory: what a box's blocks hold, and the functions that only read them. For every heap. -/
import Derived.Test.YtnaioobndgflmaaChecked
import Derived.WalkKit
import Derived.WalkLawsBesides
import Derived.Deep.OwnRows
import Derived.Deep.AppendLies
import Derived.OwnWalk
import Derived.Laws.CopyOwn
import Derived.Lib.Hide
import Derived.Deep.QuietTactic
import Derived.BigQuiet
import Derived.Deep.RegionWith
import Derived.Deep.Draws
namespace Go.Proofs.Ytnaioobndgflmaa
open Go Go.RowKit Go.Deep

theorem beq_cast (a b : Nat) : ((a : Int) == (b : Int)) = decide (a = b) := by rw [Bool.eq_iff_iff]; simp; omega
theorem beq_cast0 (a : Nat) : ((a : Int) == 0) = decide (a = 0) := beq_cast a 0
/-- a pointer to a block's head. -/
abbrev ptr (b : Nat) : Value := .pointer (some ⟨b, 0, none⟩)

/-- the cells of a ring. -/
def RF (V : Value) (first n : Nat) (j : Nat) : Value := if j = 0 then V else if j = 1 then .int .i64 (first : Int) else .int .i64 (n : Int)
/-- the cells of the mailboxes' head. -/
def BF (A Rm : Value) (j : Nat) : Value := if j = 0 then A else Rm

/-- a row of a ring's values: nil, or a block of its own. -/
def Vrow (w : World) (V : Value) (cap : Nat) (y : Nat → Value) : Prop :=
  (cap = 0 ∧ V = .slice none 0 0) ∨ (0 < cap ∧ ∃ g, V = .slice (some ⟨g, 0, none⟩) cap cap ∧ w.rowIs g 33 cap y)

/-- a ring: room for so many, these values in it. -/
structure Ring (S : Nat → Prop) (w : World) (R room : Nat) (vs : List Int) (V : Value) (cap first : Nat) (y : Nat → Value) : Prop where
  mine : S R
  head : w.rowIs R 61 3 (RF V first vs.length)
  row : Vrow w V cap y
  own : ∀ g, V.ownBlock = some g → S g
  len : vs.length ≤ cap
  fits : cap ≤ room
  one : 1 ≤ room
  most : room ≤ 1024
  frst : first < cap ∨ (first = 0 ∧ cap = 0)
  at_ : ∀ i, i < vs.length → y ((first + i) % cap) = .int .u64 (vs.getD i 0)
  cells : ∀ i, i < cap → ∃ z, y i = .int .u64 z

/-- the mailboxes' head, and their rings. -/
structure BxAt (S : Nat → Prop) (w : World) (B n : Nat) (room : Nat → Nat) (vs : Nat → List Int) (A Rm : Value) (rb : Nat → Nat) (V : Nat → Value) (cap first : Nat → Nat) (y : Nat → Nat → Value) : Prop where
  mine : S B
  many : n ≤ 1024
  head : w.rowIs B 58 2 (BF A Rm)
  all : w.ownsRow 0 59 1 A n ((List.range n).map fun j => ptr (rb j))
  rooms : w.ownsRow 0 3 1 Rm n ((List.range n).map fun j => .int .i64 (room j : Int))
  ownA : ∀ g, A.ownBlock = some g → S g
  ownR : ∀ g, Rm.ownBlock = some g → S g
  apart : ∀ i j, i < n → j < n → rb i = rb j → i = j
  apartV : ∀ i j g, i < n → j < n → (V i).ownBlock = some g → (V j).ownBlock = some g → i = j
  ring : ∀ j, j < n → Ring S w (rb j) (room j) (vs j) (V j) (cap j) (first j) (y j)

def Bx (S : Nat → Prop) (w : World) (B n : Nat) (room : Nat → Nat) (vs : Nat → List Int) : Prop := ∃ A Rm rb V cap first y, BxAt S w B n room vs A Rm rb V cap first y

theorem ownsRow_slice {w : World} {base : Nat} {e : TypeId} {size : Nat} {v : Value} {n : Nat} {xs : List Value} (h : w.ownsRow base e size v n xs) (hn : 0 < n) : ∃ g cap, v = .slice (some ⟨g, 0, none⟩) n cap := by
  rcases h.2 with ⟨_, h0⟩ | ⟨g, cap, _, hv, _⟩
  · omega
  · exact ⟨g, cap, hv⟩
theorem ownsRow_len {w : World} {base : Nat} {e : TypeId} {size : Nat} {v : Value} {n : Nat} {xs : List Value} (h : w.ownsRow base e size v n xs) : ∃ ap cap, v = .slice ap n cap := by
  rcases h.2 with ⟨hv, h0⟩ | ⟨g, cap, _, hv, _⟩
  · subst h0; exact ⟨_, _, hv⟩
  · exact ⟨_, cap, hv⟩
theorem ownsRow_cell {w : World} {base : Nat} {e : TypeId} {g n cap : Nat} {f : Nat → Value} (h : w.ownsRow base e 1 (.slice (some ⟨g, 0, none⟩) n cap) n ((List.range n).map f)) {i : Nat} (hi : i < n) : w.cell? ⟨g, i, none⟩ = some (f i) := by
  have := h.cells (g := g) rfl i (f i) (by simp [hi])
  rwa [Addr.add_lit, Nat.zero_add] at this

theorem num_c (e : Int) (w : World) : Calls Try.prog 10 #[.int .i64 e] w fun r w' => r = .returned (.int .i64 e) ∧ w = w' := by
  go_enter Try.func10, Try.ntmps10
  go_wp2
  go_ret
  exact ⟨rfl, rfl⟩

theorem at_c (R first i cap : Nat) (ap : Option Addr) (w : World) (h0 : w.cell? ⟨R, 0, none⟩ = some (.slice ap cap cap)) (h1 : w.cell? ⟨R, 1, none⟩ = some (.int .i64 (first : Int))) (hc : 0 < cap) (hc' : cap ≤ 1024) (hf : first ≤ 1024) (hi : i ≤ 1024) :
    Calls Try.prog 24 #[ptr R, .int .i64 (i : Int)] w fun r w' => r = .returned (.int .i64 (((first + i) % cap : Nat) : Int)) ∧ ∃ m, w' = w.drewN m := by
  have hc2 : (cap : Int) ≠ 0 := by omega
  go_enter Try.func24, Try.ntmps24
  go_wp2_with fail
  go_quiet (fail)
  go_wp2
  go_ret
  exact ⟨by simp [Int.natCast_emod, Int.natCast_add], nq, rfl⟩

theorem find_none (i : Int) (w : World) : Calls Try.prog 22 #[.pointer none, .int .i64 i] w fun r w' => r = .returned (.tuple #[.pointer none, .int .i64 5]) ∧ w = w' := by
  go_enter Try.func22, Try.ntmps22
  go_wp2
  go_ret2
  exact ⟨rfl, rfl⟩
theorem find_in {S : Nat → Prop} {w : World} {B n : Nat} {room : Nat → Nat} {vs : Nat → List Int} {A Rm : Value} {rb : Nat → Nat} {V : Nat → Value} {cap first : Nat → Nat} {y : Nat → Nat → Value} (h : BxAt S w B n room vs A Rm rb V cap first y) (i : Nat) (hi : i < n) :
    Calls Try.prog 22 #[ptr B, .int .i64 (i : Int)] w fun r w' => r = .returned (.tuple #[ptr (rb i), .int .i64 0]) ∧ w = w' := by
  obtain ⟨g, c, rfl⟩ := ownsRow_slice h.all (by omega)
  have h0 : w.cell? ⟨B, 0, none⟩ = some (.slice (some ⟨g, 0, none⟩) n c) := h.head.cell (by omega)
  have h1 := ownsRow_cell h.all hi
  have hn : (i : Int) < (n : Int) := by omega
  have hm := h.many
  clear h
  go_enter Try.func22, Try.ntmps22
  go_wp2
  go_ret2
  exact ⟨rfl, rfl⟩
theorem find_out {S : Nat → Prop} {w : World} {B n : Nat} {room : Nat → Nat} {vs : Nat → List Int} (h : Bx S w B n room vs) (i : Int) (hi : i < 0 ∨ (n : Int) ≤ i) :
    Calls Try.prog 22 #[ptr B, .int .i64 i] w fun r w' => r = .returned (.tuple #[.pointer none, .int .i64 1]) ∧ w = w' := by
  obtain ⟨A, Rm, rb, V, cap, first, y, h⟩ := h
  obtain ⟨ap, c, rfl⟩ := ownsRow_len h.all
  have h0 : w.cell? ⟨B, 0, none⟩ = some (.slice ap n c) := h.head.cell (by omega)
  clear h
  by_cases hi0 : i < 0
  · clear hi
    go_enter Try.func22, Try.ntmps22
    go_wp2
    go_ret2
    exact ⟨rfl, rfl⟩
  · have hi1 : (n : Int) ≤ i := by omega
    have hi2 : 0 ≤ i := by omega
    clear hi hi0
    go_enter Try.func22, Try.ntmps22
    go_wp2
    go_ret2
    exact ⟨rfl, rfl⟩

/-- what Len answers. -/
theorem len_none (i : Int) (w : World) : Calls Try.prog 14 #[.pointer none, .int .i64 i] w fun r w' => r = .returned (.tuple #[.int .i64 0, .int .i64 5]) ∧ w = w' := by
  go_enter Try.func14, Try.ntmps14
  go_wp2_with (go_at_call 22; refine (find_none _ _).mono ?_; rintro r w' ⟨rfl, rfl⟩)
  go_ret2
  exact ⟨rfl, rfl⟩
theorem len_out {S : Nat → Prop} {w : World} {B n : Nat} {room : Nat → Nat} {vs : Nat → List Int} (h : Bx S w B n room vs) (i : Int) (hi : i < 0 ∨ (n : Int) ≤ i) :
    Calls Try.prog 14 #[ptr B, .int .i64 i] w fun r w' => r = .returned (.tuple #[.int .i64 0, .int .i64 1]) ∧ w = w' := by
  go_enter Try.func14, Try.ntmps14
  go_wp2_with (go_at_call 22; refine (find_out h i hi).mono ?_; rintro r w' ⟨rfl, rfl⟩)
  go_ret2
  exact ⟨rfl, rfl⟩
theorem len_in {S : Nat → Prop} {w : World} {B n : Nat} {room : Nat → Nat} {vs : Nat → List Int} (h : Bx S w B n room vs) (i : Nat) (hi : i < n) :
    Calls Try.prog 14 #[ptr B, .int .i64 (i : Int)] w fun r w' => r = .returned (.tuple #[.int .i64 ((vs i).length : Int), .int .i64 0]) ∧ w = w' := by
  obtain ⟨A, Rm, rb, V, cap, first, y, h⟩ := h
  have h2 : w.cell? ⟨rb i, 2, none⟩ = some (.int .i64 ((vs i).length : Int)) := (h.ring i hi).head.cell (by omega)
  have H := Lib.hid h
  clear h
  go_enter Try.func14, Try.ntmps14
  go_wp2_with (go_at_call 22; refine (find_in H.out i hi).mono ?_; rintro r w' ⟨rfl, rfl⟩)
  go_ret2
  exact ⟨rfl, rfl⟩
theorem full_none (i : Int) (w : World) : Calls Try.prog 11 #[.pointer none, .int .i64 i] w fun r w' => r = .returned (.bool false) ∧ w = w' := by
  go_enter Try.func11, Try.ntmps11
  go_wp2_with (go_at_call 14; refine (len_none _ _).mono ?_; rintro r w' ⟨rfl, rfl⟩)
  go_ret
  exact ⟨rfl, rfl⟩
theorem full_out {S : Nat → Prop} {w : World} {B n : Nat} {room : Nat → Nat} {vs : Nat → List Int} (h : Bx S w B n room vs) (i : Int) (hi : i < 0 ∨ (n : Int) ≤ i) :
    Calls Try.prog 11 #[ptr B, .int .i64 i] w fun r w' => r = .returned (.bool false) ∧ w = w' := by
  go_enter Try.func11, Try.ntmps11
  go_wp2_with (go_at_call 14; refine (len_out h i hi).mono ?_; rintro r w' ⟨rfl, rfl⟩)
  go_ret
  exact ⟨rfl, rfl⟩
theorem full_in {S : Nat → Prop} {w : World} {B n : Nat} {room : Nat → Nat} {vs : Nat → List Int} (h : Bx S w B n room vs) (i : Nat) (hi : i < n) :
    Calls Try.prog 11 #[ptr B, .int .i64 (i : Int)] w fun r w' => r = .returned (.bool (decide ((vs i).length = room i))) ∧ w = w' := by
  have H := Lib.hid h
  obtain ⟨A, Rm, rb, V, cap, first, y, h⟩ := h
  obtain ⟨g, c, rfl⟩ := ownsRow_slice h.rooms (by omega)
  have h2 : w.cell? ⟨B, 1, none⟩ = some (.slice (some ⟨g, 0, none⟩) n c) := h.head.cell (by omega)
  have h3 := ownsRow_cell h.rooms hi
  have hn : (i : Int) < (n : Int) := by omega
  clear h
  go_enter Try.func11, Try.ntmps11
  go_wp2_with (go_at_call 14; refine (len_in H.out i hi).mono ?_; rintro r w' ⟨rfl, rfl⟩)
  go_ret
  exact ⟨by rw [← beq_cast]; rfl, rfl⟩
theorem empty_none (i : Int) (w : World) : Calls Try.prog 20 #[.pointer none, .int .i64 i] w fun r w' => r = .returned (.bool false) ∧ w = w' := by
  go_enter Try.func20, Try.ntmps20
  go_wp2_with (go_at_call 14; refine (len_none _ _).mono ?_; rintro r w' ⟨rfl, rfl⟩)
  go_ret
  exact ⟨rfl, rfl⟩
theorem empty_out {S : Nat → Prop} {w : World} {B n : Nat} {room : Nat → Nat} {vs : Nat → List Int} (h : Bx S w B n room vs) (i : Int) (hi : i < 0 ∨ (n : Int) ≤ i) :
    Calls Try.prog 20 #[ptr B, .int .i64 i] w fun r w' => r = .returned (.bool false) ∧ w = w' := by
  go_enter Try.func20, Try.ntmps20
  go_wp2_with (go_at_call 14; refine (len_out h i hi).mono ?_; rintro r w' ⟨rfl, rfl⟩)
  go_ret
  exact ⟨rfl, rfl⟩
theorem empty_in {S : Nat → Prop} {w : World} {B n : Nat} {room : Nat → Nat} {vs : Nat → List Int} (h : Bx S w B n room vs) (i : Nat) (hi : i < n) :
    Calls Try.prog 20 #[ptr B, .int .i64 (i : Int)] w fun r w' => r = .returned (.bool (decide ((vs i).length = 0))) ∧ w = w' := by
  have H := Lib.hid h
  go_enter Try.func20, Try.ntmps20
  go_wp2_with (go_at_call 14; refine (len_in H.out i hi).mono ?_; rintro r w' ⟨rfl, rfl⟩)
  go_ret
  exact ⟨by rw [← beq_cast0]; rfl, rfl⟩
end Go.Proofs.Ytnaioobndgflmaa
