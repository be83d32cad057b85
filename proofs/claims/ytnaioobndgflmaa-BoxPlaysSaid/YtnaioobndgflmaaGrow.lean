/- A ring grows: the values stay, in their order. For every heap. -/
import Derived.Test.YtnaioobndgflmaaBx
import Derived.Deep.RegionLaw
import Derived.StillTailTactics
namespace Go.Proofs.Ytnaioobndgflmaa
open Go Go.RowKit Go.Deep
set_option linter.unusedVariables false

/-- no block but those of F has changed. -/
structure Frm (F : Nat → Prop) (w w' : World) : Prop where
  os : w'.os = w.os
  tape : w'.tape = w.tape
  output : w'.output = w.output
  size : w.heap.size ≤ w'.heap.size
  block : ∀ k, k < w.heap.size → ¬ F k → w'.heap[k]? = w.heap[k]?
namespace Frm
variable {F F' : Nat → Prop} {w w' w'' : World}
theorem refl (F : Nat → Prop) (w : World) : Frm F w w := ⟨rfl, rfl, rfl, Nat.le_refl _, fun _ _ _ => rfl⟩
theorem mono (h : Frm F w w') (hf : ∀ k, k < w.heap.size → F k → F' k) : Frm F' w w' := ⟨h.os, h.tape, h.output, h.size, fun k hk hn => h.block k hk fun hF => hn (hf k hk hF)⟩
theorem trans (h : Frm F w w') (k : Frm F' w' w'') (hf : ∀ k, k < w.heap.size → F' k → F k) : Frm F w w'' :=
  ⟨k.os.trans h.os, k.tape.trans h.tape, k.output.trans h.output, Nat.le_trans h.size k.size, fun i hi hn => (k.block i (Nat.lt_of_lt_of_le hi h.size) fun hF => hn (hf i hi hF)).trans (h.block i hi hn)⟩
theorem drewN (h : Frm F w w') (n : Nat) : Frm F w (w'.drewN n) := ⟨h.os, h.tape, h.output, h.size, h.block⟩
theorem ofBelow {B : Nat} (h : Below B w w') (hB : ∀ k, k < w.heap.size → ¬ F k → k < B) : Frm F w w' := ⟨h.os, h.tape, h.output, h.size, fun k hk hn => h.block k (hB k hk hn)⟩
theorem below {B : Nat} (h : Frm F w w') (hB : B ≤ w.heap.size) (hf : ∀ k, F k → B ≤ k) : Below B w w' := ⟨h.os, h.tape, h.output, h.size, fun k hk => h.block k (Nat.lt_of_lt_of_le hk hB) fun hF => Nat.lt_irrefl _ (Nat.lt_of_lt_of_le hk (hf k hF))⟩
theorem alloc (h : Frm F w w') (o : Obj) : Frm F w (w'.alloc o) :=
  ⟨h.os, h.tape, h.output, by rw [nblk_alloc]; have := h.size; omega, fun k hk hn => (blk_alloc_lt w' o k (Nat.lt_of_lt_of_le hk h.size)).trans (h.block k hk hn)⟩
theorem setCell (h : Frm F w w') {a : Addr} (ha : a.block < w.heap.size → F a.block) (v : Value) : Frm F w (w'.setCell a v) :=
  ⟨h.os, h.tape, h.output, by rw [nblk_setCell]; exact h.size, fun k hk hn => by
    rw [blk_setCell_other _ _ _ _ (fun e => hn (by subst e; exact ha hk))]; exact h.block k hk hn⟩
theorem grown {row : Option Nat} (h : Frm F w w') (hg : w'.grownBy w'' row) (hr : ∀ k, row = some k → k < w.heap.size → F k) : Frm F w w'' :=
  ⟨hg.os.trans h.os, hg.tape.trans h.tape, hg.output.trans h.output, Nat.le_trans h.size hg.size, fun k hk hn => (hg.block k (Nat.lt_of_lt_of_le hk h.size) (fun e => hn (hr k e.symm hk))).trans (h.block k hk hn)⟩
end Frm

theorem spliced (Z cs1 cs2 : List Value) (K n : Nat) (h1 : cs1.length = K) (h2 : cs2.length = n) : splice (splice Z 0 cs1) K cs2 = cs1 ++ (cs2 ++ Z.drop (K + n)) := by
  subst h1 h2
  simp [splice, List.drop_append, List.drop_drop]
theorem made_at (N i : Nat) (h : i < N) : (madeCells #[Value.int .u64 0] N).toList[i]? = some (.int .u64 0) := by
  simp [madeCells, h, Nat.mod_one]

/-- the ring's new row. -/
def ynew (y : Nat → Value) (first cap i : Nat) : Value := if i < cap then y ((first + i) % cap) else .int .u64 0
theorem spliced_at (y : Nat → Value) (first cap N i : Nat) (hf : first < cap) (hN : cap < N) (hi : i < N) :
    ((List.range (cap - first)).map (fun i => y (first + i)) ++ ((List.range first).map (fun i => y i) ++ (madeCells #[Value.int .u64 0] N).toList.drop (cap - first + first)))[i]? = some (ynew y first cap i) := by
  unfold ynew
  by_cases h1 : i < cap - first
  · rw [List.getElem?_append_left (by simpa using h1), if_pos (by omega), Nat.mod_eq_of_lt (by omega)]
    simp [h1]
  · rw [List.getElem?_append_right (by simp; omega)]
    simp only [List.length_map, List.length_range]
    by_cases h2 : i - (cap - first) < first
    · rw [List.getElem?_append_left (by simpa using h2), if_pos (by omega), Nat.mod_eq_sub_mod (by omega), Nat.mod_eq_of_lt (by omega), show first + i - cap = i - (cap - first) by omega]
      simp [h2]
    · rw [List.getElem?_append_right (by simp; omega), if_neg (by omega)]
      simp only [List.length_map, List.length_range]
      rw [List.getElem?_drop, made_at _ _ (by omega)]

theorem grow_room (R cap n room : Nat) (ap : Option Addr) (w : World) (h0 : w.cell? ⟨R, 0, none⟩ = some (.slice ap cap cap)) (h2 : w.cell? ⟨R, 2, none⟩ = some (.int .i64 (n : Int))) (hn : n < cap) :
    Calls Try.prog 23 #[ptr R, .int .i64 (room : Int)] w fun r w' => r = .returned (.tuple #[]) ∧ ∃ m, w' = w.drewN m := by
  have hn' : (n : Int) < (cap : Int) := by omega
  go_enter Try.func23, Try.ntmps23
  go_wp2_with fail
  go_quiet (fail)
  go_wp2
  refine bodyPost_ret (results_none rfl _ _ _) rfl ?_
  exact ⟨rfl, nq, rfl⟩

theorem info33 : (Try.prog.info? 33).map (fun i => (i.zero, i.size, i.bytes)) = some (some (.int .u64 0), 1, 8) := by kernel_rfl

/-- the greater of twice c and four; the lesser of two. -/
def mx4 (c : Nat) : Nat := max (2 * c) 4
def mnr (a b : Nat) : Nat := min a b
theorem max2_c (k k' : IntKind) (c : Nat) : Builtin.max2 (.int k (2 * (c : Int))) (.int k' 4) = pure (.int k (mx4 c : Int)) := by
  simp only [Builtin.max2, gt_iff_lt]
  congr 2
  unfold mx4
  split <;> omega
theorem min2_c (k k' : IntKind) (a b : Nat) : Builtin.min2 (.int k (a : Int)) (.int k' (b : Int)) = pure (.int k (mnr a b : Int)) := by
  simp only [Builtin.min2]
  congr 2
  unfold mnr
  split <;> omega
theorem max_two (ats : Array TypeId) (ty : TypeId) (a b : Value) : Builtin.max_ ats ty #[a, b] = (Builtin.max2 a b >>= fun s => pure s) := by simp only [Builtin.max_, List.foldlM_cons, List.foldlM_nil]
theorem min_two (ats : Array TypeId) (ty : TypeId) (a b : Value) : Builtin.min_ ats ty #[a, b] = (Builtin.min2 a b >>= fun s => pure s) := by simp only [Builtin.min_, List.foldlM_cons, List.foldlM_nil]
attribute [local go_sem] max2_c min2_c max_two min_two

set_option maxHeartbeats 1000000 in
theorem grow_more (R cap first room g : Nat) (y : Nat → Value) (w : World) (hR : w.rowIs R 61 3 (RF (.slice (some ⟨g, 0, none⟩) cap cap) first cap))
    (hy : w.rowIs g 33 cap y) (hf : first < cap) (hr : cap < room) (hr2 : room ≤ 1024) (hcl : ∀ i, i < cap → ∃ z, y i = .int .u64 z) :
    Calls Try.prog 23 #[ptr R, .int .i64 (room : Int)] w fun r w' => r = .returned (.tuple #[]) ∧ ∃ N, cap < N ∧ N ≤ room ∧ w'.rowIs R 61 3 (RF (.slice (some ⟨w.heap.size, 0, none⟩) N N) 0 cap) ∧ w'.rowIs w.heap.size 33 N (ynew y first cap) ∧ w.heap.size < w'.heap.size ∧ Frm (· = R) w w' := by
  have h1c : ∀ i, i < cap → (y i).oneCell' = true := fun i hi => by obtain ⟨z, hz⟩ := hcl i hi; rw [hz]; rfl
  have hn' : ¬ (cap : Int) < (cap : Int) := by omega
  have hf' : (first : Int) ≤ (cap : Int) := by omega
  have h0 : w.cell? ⟨R, 0, none⟩ = some (.slice (some ⟨g, 0, none⟩) cap cap) := hR.cell (by omega)
  have h1 : w.cell? ⟨R, 1, none⟩ = some (.int .i64 (first : Int)) := hR.cell (by omega)
  have h2 : w.cell? ⟨R, 2, none⟩ = some (.int .i64 (cap : Int)) := hR.cell (by omega)
  have hRl := hR.lt
  have hgl := hy.lt
  have HR := Lib.hid hR
  have HY := Lib.hid hy
  clear hR hy
  obtain ⟨i33, hi33, hz0, hz1, hz2⟩ := info_parts info33
  have HI := Lib.hid hi33
  have HI0 := Lib.hid hz0
  have HI1 := Lib.hid hz1
  have HI2 := Lib.hid hz2
  clear hi33 hz0 hz1 hz2
  obtain ⟨N, hN⟩ : ∃ N, N = mnr (mx4 cap) room := ⟨_, rfl⟩
  have hN1 : N ≤ 1024 := by rw [hN]; unfold mnr; omega
  have hN3 : N ≤ room := by rw [hN]; unfold mnr; omega
  have hN2 : cap < N := by rw [hN]; unfold mnr mx4; omega
  have HN := Lib.hid hN
  clear hN
  go_enter Try.func23, Try.ntmps23
  go_wp2_with fail
  go_quiet (fail)
  go_wp2_with (first | (at_make; refine wpList_make_row _ rfl _ _ 49 rfl 33 i33 (.int .u64 0) Try.underlying49 HI.out HI0.out HI1.out rfl .i64 .i64 N (by rw [HN.out]; rfl) (by rw [HN.out]; rfl) (by rw [HI2.out]; omega) (by omega) ?_))
  have hb1 : Below w.heap.size w ((w.drewN nq).alloc (Obj.cells (madeCells #[Value.int IntKind.u64 0] N) 33)) := (show Below w.heap.size w (w.drewN nq) from ⟨rfl, rfl, rfl, Nat.le_refl _, fun _ _ => rfl⟩).alloc (Nat.le_refl _) _
  have hg1 : ((w.drewN nq).alloc (Obj.cells (madeCells #[Value.int IntKind.u64 0] N) 33)).heap[w.heap.size]? = some (.cells (madeCells #[Value.int IntKind.u64 0] N).toList.toArray 33 (0, 0)) := by rw [Array.toArray_toList]; exact heap_alloc_new (w.drewN nq) _
  generalize (w.drewN nq).alloc (Obj.cells (madeCells #[Value.int IntKind.u64 0] N) 33) = w1 at *
  have k0 : w1.cell? ⟨R, 0, none⟩ = some (.slice (some ⟨g, 0, none⟩) cap cap) := (hb1.cell (p := ⟨R, 0, none⟩) hRl).trans h0
  have k1 : w1.cell? ⟨R, 1, none⟩ = some (.int .i64 (first : Int)) := (hb1.cell (p := ⟨R, 1, none⟩) hRl).trans h1
  go_still_tail 10, (by kernel_rfl)
  change wpList _ _ _ _ _ w1.drew
  have hb2 : Below w.heap.size w w1.drew := hb1.drew
  have hg2 : w1.drew.heap[w.heap.size]? = some (.cells (madeCells #[Value.int IntKind.u64 0] N).toList.toArray 33 (0, 0)) := hg1
  generalize w1.drew = w2 at *
  obtain ⟨cs1, hcs1⟩ : ∃ cs1, cs1 = (List.range (cap - first)).map fun i => y (first + i) := ⟨_, rfl⟩
  obtain ⟨K, hK⟩ : ∃ K, K + first = cap := ⟨cap - first, by omega⟩
  have hl1 : cs1.length = K := by rw [hcs1]; simp; omega
  have HC1 := Lib.hid hcs1
  have HL1 := Lib.hid hl1
  clear hcs1 hl1
  refine wpList_copy_splice rfl (.tmp 25) (.tmp 34) 49 49 rfl 33 Try.underlying49 (by kernel_rfl) _ _ _ _ _ _ rfl rfl w.heap.size 0 (madeCells #[.int .u64 0] N).toList 33 hg2 cs1 (by rw [HL1.out]; show K = min (cap - first) N; omega)
    (fun _ => ⟨rfl, ⟨g, first, none⟩, by rw [if_neg (by omega)], fun j v hv => ?_⟩) (by rw [HL1.out]; simp [size_madeCells]; omega) (fun v hv => ?_) w.heap.size w hb2 (Nat.le_refl _) ?_
  · have hj : j < K := by have := (List.getElem?_eq_some_iff.1 hv).1; rw [HL1.out] at this; exact this
    rw [HC1.out] at hv
    rw [Addr.add_lit, hb2.cell (p := ⟨g, first + j, none⟩) hgl, HY.out.cell (by omega)]
    rw [← hv]
    simp [show j < cap - first by omega]
  · rw [HC1.out] at hv
    obtain ⟨i, hi, rfl⟩ := List.mem_map.1 hv
    exact h1c _ (by simp at hi; omega)
  intro w3 HG3 hb3
  rw [HL1.out]
  clear hg1 hg2 hb1 hb2 k0 k1
  have m0 : w3.cell? ⟨R, 0, none⟩ = some (.slice (some ⟨g, 0, none⟩) cap cap) := (hb3.cell (p := ⟨R, 0, none⟩) hRl).trans h0
  have m1 : w3.cell? ⟨R, 1, none⟩ = some (.int .i64 (first : Int)) := (hb3.cell (p := ⟨R, 1, none⟩) hRl).trans h1
  have hKN : (K : Int) ≤ (N : Int) := by omega
  have hNK : N ≠ K := by omega
  go_wp2_with fail
  go_still_tail 12, (by kernel_rfl)
  change wpList _ _ _ _ _ w3.drew
  have hb4 : Below w.heap.size w w3.drew := hb3.drew
  have HG4 : Hid (w3.drew.heap[w.heap.size]? = some (.cells (splice (madeCells #[Value.int IntKind.u64 0] N).toList 0 cs1).toArray 33 (0, 0))) := HG3
  generalize w3.drew = w4 at *
  obtain ⟨cs2, hcs2⟩ : ∃ cs2, cs2 = (List.range first).map fun i => y i := ⟨_, rfl⟩
  have hl2 : cs2.length = first := by rw [hcs2]; simp
  have HC2 := Lib.hid hcs2
  have HL2 := Lib.hid hl2
  clear hcs2 hl2
  refine wpList_copy_splice rfl (.tmp 38) (.tmp 47) 49 49 rfl 33 Try.underlying49 (by kernel_rfl) _ _ _ _ _ _ rfl rfl w.heap.size K (splice (madeCells #[Value.int IntKind.u64 0] N).toList 0 cs1) 33 HG4.out cs2 (by rw [HL2.out]; show first = min first (N - K); omega)
    (fun _ => ⟨by first | rfl | rw [if_neg hNK], ⟨g, 0, none⟩, rfl, fun j v hv => ?_⟩) (by rw [HL2.out, length_splice _ _ _ (by rw [HL1.out]; simp [size_madeCells]; omega)]; simp [size_madeCells]; omega) (fun v hv => ?_) w.heap.size w hb4 (Nat.le_refl _) ?_
  · have hj : j < first := by have := (List.getElem?_eq_some_iff.1 hv).1; rw [HL2.out] at this; exact this
    rw [HC2.out] at hv
    rw [Addr.add_lit, Nat.zero_add, hb4.cell (p := ⟨g, j, none⟩) hgl, HY.out.cell (by omega)]
    rw [← hv]
    simp [hj]
  · rw [HC2.out] at hv
    obtain ⟨i, hi, rfl⟩ := List.mem_map.1 hv
    exact h1c _ (by simp at hi; omega)
  intro w5 HG5 hb5
  rw [HL2.out]
  clear m0 m1 hb3 hb4 HG3 HG4
  have HR5 : w5.rowIs R 61 3 (RF (.slice (some ⟨g, 0, none⟩) cap cap) first cap) := HR.out.of_block (hb5.block _ hRl)
  have m0 : w5.frozen? ⟨R, 0, none⟩ = false := HR5.frozen _
  have m1 : w5.frozen? ⟨R, 1, none⟩ = false := HR5.frozen _
  have c0 : w5.cell? ⟨R, 0, none⟩ = some (.slice (some ⟨g, 0, none⟩) cap cap) := HR5.cell (by omega)
  have c1 : w5.cell? ⟨R, 1, none⟩ = some (.int .i64 (first : Int)) := HR5.cell (by omega)
  have HH5 := Lib.hid HR5
  clear HR5
  go_wp2
  go_end0
  refine ⟨rfl, N, hN2, hN3, ?_, ?_, ?_, ?_⟩
  · refine ((HH5.out.set 0 (.slice (some ⟨w.heap.size, 0, none⟩) N N)).set 1 (.int .i64 0)).congr fun i hi => ?_
    match i, hi with
    | 0, _ => rfl
    | 1, _ => rfl
    | 2, _ => rfl
  · refine (show w5.rowIs w.heap.size 33 N (ynew y first cap) from ?_).setOther (by omega : w.heap.size ≠ R) _ |>.setOther (by omega : w.heap.size ≠ R) _
    refine ⟨_, HG5.out, ?_, fun i hi => ?_⟩
    · rw [spliced _ _ _ _ _ HL1.out HL2.out]
      simp [HL1.out, HL2.out, size_madeCells]; omega
    · rw [spliced _ _ _ _ _ HL1.out HL2.out, HC1.out, HC2.out, show K + first = cap - first + first by omega]
      simpa using spliced_at y first cap N i hf hN2 hi
  · rw [nblk_setCell, nblk_setCell]
    exact (Array.getElem?_eq_some_iff.1 HG5.out).1
  · exact Frm.setCell (F := (· = R)) (a := ⟨R, 1, none⟩) (Frm.setCell (F := (· = R)) (a := ⟨R, 0, none⟩) (Frm.ofBelow hb5 fun k hk _ => hk) (fun _ => rfl) _) (fun _ => rfl) _

set_option maxHeartbeats 1000000 in
theorem grow_nil (R c room : Nat) (y : Nat → Value) (w : World) (hc0 : c = 0) (hR : w.rowIs R 61 3 (RF (.slice none 0 0) 0 c))
    (hr : 0 < room) (hr2 : room ≤ 1024) :
    Calls Try.prog 23 #[ptr R, .int .i64 (room : Int)] w fun r w' => r = .returned (.tuple #[]) ∧ ∃ N, 0 < N ∧ N ≤ room ∧ w'.rowIs R 61 3 (RF (.slice (some ⟨w.heap.size, 0, none⟩) N N) 0 c) ∧ w'.rowIs w.heap.size 33 N (ynew y 0 0) ∧ w.heap.size < w'.heap.size ∧ Frm (· = R) w w' := by
  have hn' : ¬ (c : Int) < 0 := by omega
  have hcs : c ≤ 1024 := by omega
  have h0 : w.cell? ⟨R, 0, none⟩ = some (.slice none 0 0) := hR.cell (by omega)
  have h1 : w.cell? ⟨R, 1, none⟩ = some (.int .i64 0) := hR.cell (by omega)
  have h2 : w.cell? ⟨R, 2, none⟩ = some (.int .i64 (c : Int)) := hR.cell (by omega)
  have hRl := hR.lt
  have HR := Lib.hid hR
  have HC0 := Lib.hid hc0
  clear hR hc0
  obtain ⟨i33, hi33, hz0, hz1, hz2⟩ := info_parts info33
  have HI := Lib.hid hi33
  have HI0 := Lib.hid hz0
  have HI1 := Lib.hid hz1
  have HI2 := Lib.hid hz2
  clear hi33 hz0 hz1 hz2
  obtain ⟨N, hN⟩ : ∃ N, N = mnr (mx4 c) room := ⟨_, rfl⟩
  have hN1 : N ≤ 1024 := by rw [hN]; unfold mnr; omega
  have hN3 : N ≤ room := by rw [hN]; unfold mnr; omega
  have hN2 : 0 < N := by rw [hN]; unfold mnr mx4; omega
  have HN := Lib.hid hN
  clear hN
  go_enter Try.func23, Try.ntmps23
  go_wp2_with fail
  go_quiet (fail)
  go_wp2_with (first | (at_make; refine wpList_make_row _ rfl _ _ 49 rfl 33 i33 (.int .u64 0) Try.underlying49 HI.out HI0.out HI1.out rfl .i64 .i64 N (by rw [HN.out]; rfl) (by rw [HN.out]; rfl) (by rw [HI2.out]; omega) (by omega) ?_))
  have hb1 : Below w.heap.size w ((w.drewN nq).alloc (Obj.cells (madeCells #[Value.int IntKind.u64 0] N) 33)) := (show Below w.heap.size w (w.drewN nq) from ⟨rfl, rfl, rfl, Nat.le_refl _, fun _ _ => rfl⟩).alloc (Nat.le_refl _) _
  have hg1 : ((w.drewN nq).alloc (Obj.cells (madeCells #[Value.int IntKind.u64 0] N) 33)).heap[w.heap.size]? = some (.cells (madeCells #[Value.int IntKind.u64 0] N).toList.toArray 33 (0, 0)) := by rw [Array.toArray_toList]; exact heap_alloc_new (w.drewN nq) _
  generalize (w.drewN nq).alloc (Obj.cells (madeCells #[Value.int IntKind.u64 0] N) 33) = w1 at *
  have k0 : w1.cell? ⟨R, 0, none⟩ = some (.slice none 0 0) := (hb1.cell (p := ⟨R, 0, none⟩) hRl).trans h0
  have k1 : w1.cell? ⟨R, 1, none⟩ = some (.int .i64 0) := (hb1.cell (p := ⟨R, 1, none⟩) hRl).trans h1
  go_still_tail 10, (by kernel_rfl)
  change wpList _ _ _ _ _ w1.drew
  have hb2 : Below w.heap.size w w1.drew := hb1.drew
  have HG2 : Hid (w1.drew.heap[w.heap.size]? = some (.cells (madeCells #[Value.int IntKind.u64 0] N).toList.toArray 33 (0, 0))) := hg1
  generalize w1.drew = w2 at *
  refine wpList_copy_nothing rfl (.tmp 25) (.tmp 34) 49 49 rfl 33 Try.underlying49 (by kernel_rfl) _ _ _ _ _ _ rfl rfl (by show min 0 N = 0; omega) ?_
  have m0 : w2.cell? ⟨R, 0, none⟩ = some (.slice none 0 0) := (hb2.cell (p := ⟨R, 0, none⟩) hRl).trans h0
  have m1 : w2.cell? ⟨R, 1, none⟩ = some (.int .i64 0) := (hb2.cell (p := ⟨R, 1, none⟩) hRl).trans h1
  clear hg1 hb1 k0 k1
  have hNK : N ≠ 0 := by omega
  go_wp2_with fail
  go_still_tail 12, (by kernel_rfl)
  change wpList _ _ _ _ _ w2.drew
  have hb5 : Below w.heap.size w w2.drew := hb2.drew
  have HG5 : Hid (w2.drew.heap[w.heap.size]? = some (.cells (madeCells #[Value.int IntKind.u64 0] N).toList.toArray 33 (0, 0))) := HG2
  generalize w2.drew = w5 at *
  refine wpList_copy_nothing rfl (.tmp 38) (.tmp 47) 49 49 rfl 33 Try.underlying49 (by kernel_rfl) _ _ _ _ _ _ rfl rfl (by show min 0 _ = 0; omega) ?_
  clear m0 m1 hb2 HG2
  have HR5 : w5.rowIs R 61 3 (RF (.slice none 0 0) 0 c) := HR.out.of_block (hb5.block _ hRl)
  have m0 : w5.frozen? ⟨R, 0, none⟩ = false := HR5.frozen _
  have m1 : w5.frozen? ⟨R, 1, none⟩ = false := HR5.frozen _
  have c0 : w5.cell? ⟨R, 0, none⟩ = some (.slice none 0 0) := HR5.cell (by omega)
  have c1 : w5.cell? ⟨R, 1, none⟩ = some (.int .i64 0) := HR5.cell (by omega)
  have HH5 := Lib.hid HR5
  clear HR5
  go_wp2
  go_end0
  refine ⟨rfl, N, hN2, hN3, ?_, ?_, ?_, ?_⟩
  · refine ((HH5.out.set 0 (.slice (some ⟨w.heap.size, 0, none⟩) N N)).set 1 (.int .i64 0)).congr fun i hi => ?_
    match i, hi with
    | 0, _ => rfl
    | 1, _ => rfl
    | 2, _ => rfl
  · refine (show w5.rowIs w.heap.size 33 N (ynew y 0 0) from ?_).setOther (by omega : w.heap.size ≠ R) _ |>.setOther (by omega : w.heap.size ≠ R) _
    refine ⟨_, HG5.out, by simp [size_madeCells], fun i hi => ?_⟩
    simpa [ynew] using made_at N i hi
  · rw [nblk_setCell, nblk_setCell]
    exact (Array.getElem?_eq_some_iff.1 HG5.out).1
  · exact Frm.setCell (F := (· = R)) (a := ⟨R, 1, none⟩) (Frm.setCell (F := (· = R)) (a := ⟨R, 0, none⟩) (Frm.ofBelow hb5 fun k hk _ => hk) (fun _ => rfl) _) (fun _ => rfl) _
end Go.Proofs.Ytnaioobndgflmaa
