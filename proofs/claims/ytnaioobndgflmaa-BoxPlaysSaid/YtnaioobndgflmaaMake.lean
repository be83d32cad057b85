/- New and Make: what they answer, and what they leave. For every heap. -/
import Derived.Test.YtnaioobndgflmaaSend
namespace Go.Proofs.Ytnaioobndgflmaa
open Go Go.RowKit Go.Deep
set_option linter.unusedVariables false

theorem make_none (rm : Int) (w : World) : Calls Try.prog 9 #[.pointer none, .int .i64 rm] w fun r w' => r = .returned (.tuple #[.int .i64 0, .int .i64 5]) ∧ w = w' := by
  go_enter Try.func9, Try.ntmps9
  go_wp2
  go_ret2
  exact ⟨rfl, rfl⟩
theorem make_range (B : Nat) (rm : Int) (w : World) (h : rm < 1 ∨ 1024 < rm) : Calls Try.prog 9 #[ptr B, .int .i64 rm] w fun r w' => r = .returned (.tuple #[.int .i64 0, .int .i64 9]) ∧ w = w' := by
  by_cases h1 : rm < 1
  · clear h
    go_enter Try.func9, Try.ntmps9
    go_wp2
    go_ret2
    exact ⟨rfl, rfl⟩
  · have h2 : 1024 < rm := by omega
    clear h
    go_enter Try.func9, Try.ntmps9
    go_wp2
    go_ret2
    exact ⟨rfl, rfl⟩
theorem make_many {S : Nat → Prop} {w : World} {B : Nat} {room : Nat → Nat} {vs : Nat → List Int} (h : Bx S w B 1024 room vs) (rm : Int) (h1 : 1 ≤ rm) (h2 : rm ≤ 1024) : Calls Try.prog 9 #[ptr B, .int .i64 rm] w fun r w' => r = .returned (.tuple #[.int .i64 0, .int .i64 3]) ∧ w = w' := by
  obtain ⟨A, Rm, rb, V, cap, first, y, hA⟩ := id h
  obtain ⟨ap, c, rfl⟩ := ownsRow_len hA.all
  have h0 : w.cell? ⟨B, 0, none⟩ = some (.slice ap 1024 c) := hA.head.cell (by omega)
  clear hA
  go_enter Try.func9, Try.ntmps9
  go_wp2
  go_ret2
  exact ⟨rfl, rfl⟩
theorem new_c (w : World) : Calls Try.prog 8 #[] w fun r w' => r = .returned (ptr w.heap.size) ∧ Bx (fun k => k = w.heap.size) w' w.heap.size 0 (fun _ => 0) (fun _ => []) ∧ Below w.heap.size w w' ∧ w.heap.size < w'.heap.size := by
  go_enter Try.func8, Try.ntmps8
  go_wp2
  go_ret
  refine ⟨rfl, ⟨.slice none 0 0, .slice none 0 0, fun _ => 0, fun _ => .slice none 0 0, fun _ => 0, fun _ => 0, fun _ _ => undef, rfl, by omega, ?_, World.ownsRow_nil _ _ _ _, World.ownsRow_nil _ _ _ _, fun g hg => by simp [Value.ownBlock] at hg, fun g hg => by simp [Value.ownBlock] at hg, fun i j hi => by omega, fun i j g hi => by omega, fun j hj => by omega⟩, (Below.refl _ _).alloc (Nat.le_refl _) _, by rw [nblk_alloc]; omega⟩
  exact World.rowIs_alloc w #[.slice none 0 0, .slice none 0 0] 58 _ fun i hi => by
    match i, hi with
    | 0, _ => rfl
    | 1, _ => rfl

theorem range_succ_map (n : Nat) (f g : Nat → Value) (x : Value) (h : ∀ j, j < n → g j = f j) (hx : g n = x) : (List.range n).map f ++ [x] = (List.range (n + 1)).map g := by
  rw [List.range_succ, List.map_append, List.map_singleton, hx]
  congr 1
  exact List.map_congr_left fun j hj => (h j (by simpa using hj)).symm

/-- what Make may touch. -/
def MT (B : Nat) (A Rm : Value) (k : Nat) : Prop := k = B ∨ A.ownBlock = some k ∨ Rm.ownBlock = some k
abbrev ring0 : Obj := .cells #[.slice none 0 0, .int .i64 0, .int .i64 0] 61

theorem make_done {S : Nat → Prop} {w w' : World} {B n : Nat} {room : Nat → Nat} {vs : Nat → List Int} {A Rm A' Rm' : Value} {rb : Nat → Nat} {V : Nat → Value} {cap first : Nat → Nat} {y : Nat → Nat → Value}
    (h : BxAt S w B n room vs A Rm rb V cap first y) (hn : n < 1024) {rm : Nat} (h1 : 1 ≤ rm) (h2 : rm ≤ 1024) (hF : Frm (MT B A Rm) (w.alloc ring0) w') (hB : w'.rowIs B 58 2 (BF A' Rm'))
    (hall : w'.ownsRow 0 59 1 A' (n + 1) ((List.range n).map (fun j => ptr (rb j)) ++ [ptr w.heap.size])) (hrooms : w'.ownsRow 0 3 1 Rm' (n + 1) ((List.range n).map (fun j => Value.int .i64 (room j : Int)) ++ [.int .i64 (rm : Int)]))
    (hgA : ∀ g, A'.ownBlock = some g → A.ownBlock = some g ∨ w.heap.size ≤ g) (hgR : ∀ g, Rm'.ownBlock = some g → Rm.ownBlock = some g ∨ w.heap.size ≤ g) :
    Bx (Nxt S w w') w' B (n + 1) (fset room n rm) (fset vs n []) ∧ Frm S w w' := by
  have hsz : w.heap.size < w'.heap.size := by have := hF.size; rw [nblk_alloc] at this; omega
  have hMS : ∀ k, MT B A Rm k → S k := by
    rintro k (rfl | h3 | h3)
    · exact h.mine
    · exact h.ownA _ h3
    · exact h.ownR _ h3
  have hblk : ∀ k t m f, w.rowIs k t m f → t ≠ 58 → t ≠ 59 → t ≠ 3 → w'.heap[k]? = w.heap[k]? := fun k t m f hk e1 e2 e3 => by
    rw [hF.block k (by rw [nblk_alloc]; have := hk.lt; omega) ?_, blk_alloc_lt _ _ _ hk.lt]
    rintro (rfl | h3 | h3)
    · exact rowIs_ne hk h.head e1 rfl
    · exact own_ne h.all hk (Ne.symm e2) h3
    · exact own_ne h.rooms hk (Ne.symm e3) h3
  have hrl : ∀ j, j < n → rb j < w.heap.size := fun j hj => (h.ring j hj).head.lt
  refine ⟨⟨A', Rm', fset rb n w.heap.size, fset V n (.slice none 0 0), fset cap n 0, fset first n 0, fset y n fun _ => undef, .inl h.mine, hn, hB, ?_, ?_, ?_, ?_, ?_, ?_, ?_⟩, ?_⟩
  · rw [← range_succ_map n (fun j => ptr (rb j)) _ (ptr w.heap.size) (fun j hj => by rw [fset_other _ _ _ (by omega)]) (by rw [fset_same])]
    exact hall
  · rw [← range_succ_map n (fun j => Value.int .i64 (room j : Int)) _ (.int .i64 (rm : Int)) (fun j hj => by rw [fset_other _ _ _ (by omega)]) (by rw [fset_same])]
    exact hrooms
  · intro g hg
    rcases hgA g hg with h3 | h3
    · exact .inl (h.ownA g h3)
    · exact .inr ⟨h3, (hall.lt g hg).2⟩
  · intro g hg
    rcases hgR g hg with h3 | h3
    · exact .inl (h.ownR g h3)
    · exact .inr ⟨h3, (hrooms.lt g hg).2⟩
  · intro i j hi hj he
    by_cases ei : i = n
    · by_cases ej : j = n
      · omega
      · subst ei
        rw [fset_same, fset_other _ _ _ ej] at he
        have := hrl j (by omega)
        omega
    · by_cases ej : j = n
      · subst ej
        rw [fset_same, fset_other _ _ _ ei] at he
        have := hrl i (by omega)
        omega
      · rw [fset_other _ _ _ ei, fset_other _ _ _ ej] at he
        exact h.apart i j (by omega) (by omega) he
  · intro i j g hi hj e1 e2
    by_cases ei : i = n
    · subst ei
      rw [fset_same] at e1
      simp [Value.ownBlock] at e1
    · by_cases ej : j = n
      · subst ej
        rw [fset_same] at e2
        simp [Value.ownBlock] at e2
      · rw [fset_other _ _ _ ei] at e1
        rw [fset_other _ _ _ ej] at e2
        exact h.apartV i j g (by omega) (by omega) e1 e2
  · intro j hj
    by_cases e : j = n
    · subst e
      simp only [fset_same]
      refine ⟨.inr ⟨Nat.le_refl _, hsz⟩, ?_, .inl ⟨rfl, rfl⟩, fun g hg => by simp [Value.ownBlock] at hg, by simp, by omega, h1, h2, .inr ⟨rfl, rfl⟩, fun i hi => by simp at hi, fun i hi => by omega⟩
      refine (World.rowIs_alloc w #[.slice none 0 0, .int .i64 0, .int .i64 0] 61 (RF (.slice none 0 0) 0 0) fun i hi => by
        match i, hi with
        | 0, _ => rfl
        | 1, _ => rfl
        | 2, _ => rfl).of_block (hF.block _ (by rw [nblk_alloc]; omega) ?_)
      rintro (h3 | h3 | h3)
      · have := h.head.lt; omega
      · have := (h.all.lt _ h3).2; omega
      · have := (h.rooms.lt _ h3).2; omega
    · simp only [fset_other _ _ _ e]
      have hr := h.ring j (by omega)
      exact hr.keep (fun _ h => .inl h) (hblk _ _ _ _ hr.head (by decide) (by decide) (by decide)) fun k hk => hblk _ _ _ _ (hr.row.row hk) (by decide) (by decide) (by decide)
  · exact Frm.trans ((Frm.refl S w).alloc _) hF fun k _ hk => hMS k hk

theorem mk_keep {S : Nat → Prop} {w w2 : World} {B n : Nat} {room : Nat → Nat} {vs : Nat → List Int} {A Rm : Value} {rb : Nat → Nat} {V : Nat → Value} {cap first : Nat → Nat} {y : Nat → Nat → Value} {o o' : Obj}
    (h : BxAt S w B n room vs A Rm rb V cap first y) (hg : ((w.alloc o).alloc o').grownBy w2 A.ownBlock) : w2.rowIs B 58 2 (BF A Rm) ∧ w2.ownsRow 0 3 1 Rm n ((List.range n).map fun j => .int .i64 (room j : Int)) ∧ Rm.ownBlock ≠ some B := by
  refine ⟨((h.head.alloc o).alloc o').of_block (hg.block B ((h.head.alloc o).alloc o').lt fun e => own_ne h.all h.head (by decide) e.symm), ((h.rooms.alloc o).alloc o').kept hg ?_, own_ne h.rooms h.head (by decide)⟩
  cases hv : Rm.ownBlock with
  | none => exact .inl rfl
  | some k =>
    refine .inr fun e => ?_
    obtain ⟨c1, e1⟩ := own_heap h.rooms hv
    obtain ⟨c2, e2⟩ := own_heap h.all e.symm
    rw [e1] at e2
    simp at e2
theorem mk_five {w2 w5 : World} {B : Nat} {A A' Rm : Value} {o : Obj} (hB : w2.rowIs B 58 2 (BF A Rm)) (hne : Rm.ownBlock ≠ some B) (hg : ((w2.setCell ⟨B, 0, none⟩ A').alloc o).grownBy w5 Rm.ownBlock) : w5.rowIs B 58 2 (BF A' Rm) := by
  have h1 : (w2.setCell ⟨B, 0, none⟩ A').rowIs B 58 2 (BF A' Rm) := (hB.set 0 A').congr fun i hi => by
    match i, hi with
    | 0, _ => rfl
    | 1, _ => rfl
  exact (h1.alloc o).of_block (hg.block B (h1.alloc o).lt fun e => hne e.symm)
theorem mk_fin {S : Nat → Prop} {w w2 w5 : World} {B n : Nat} {room : Nat → Nat} {vs : Nat → List Int} {A Rm A' Rm' : Value} {rb : Nat → Nat} {V : Nat → Value} {cap first : Nat → Nat} {y : Nat → Nat → Value} {o o' : Obj}
    (h : BxAt S w B n room vs A Rm rb V cap first y) (hn : n < 1024) {rm : Nat} (h1 : 1 ≤ rm) (h2 : rm ≤ 1024) (hg : ((w.alloc ring0).alloc o).grownBy w2 A.ownBlock) (hown : w2.ownsRow 0 59 1 A' (n + 1) ((List.range n).map (fun j => ptr (rb j)) ++ [ptr w.heap.size]))
    (hA' : ∀ g, A'.ownBlock = some g → A.ownBlock = some g ∨ w.heap.size ≤ g) (hg5 : ((w2.setCell ⟨B, 0, none⟩ A').alloc o').grownBy w5 Rm.ownBlock)
    (hown5 : w5.ownsRow 0 3 1 Rm' (n + 1) ((List.range n).map (fun j => Value.int .i64 (room j : Int)) ++ [.int .i64 (rm : Int)])) (hR' : ∀ g, Rm'.ownBlock = some g → Rm.ownBlock = some g ∨ w.heap.size ≤ g) :
    Bx (Nxt S w (w5.setCell ⟨B, 1, none⟩ Rm')) (w5.setCell ⟨B, 1, none⟩ Rm') B (n + 1) (fset room n rm) (fset vs n []) ∧ Frm S w (w5.setCell ⟨B, 1, none⟩ Rm') := by
  obtain ⟨hB2, hR2, hne⟩ := mk_keep h hg
  have hB5 := mk_five hB2 hne hg5
  have hab : A'.ownBlock ≠ some B := own_ne hown hB2 (by decide)
  have hrb : Rm'.ownBlock ≠ some B := own_ne hown5 hB5 (by decide)
  refine make_done h hn h1 h2 ?_ ?_ ?_ (ownsRow_setCell_other hown5 hrb _) hA' hR'
  · exact Frm.setCell (a := ⟨B, 1, none⟩) (((Frm.setCell (a := ⟨B, 0, none⟩) (((Frm.refl _ (w.alloc ring0)).alloc _).grown hg fun k hk _ => .inr (.inl hk)) (fun _ => .inl rfl) A').alloc _).grown hg5 fun k hk _ => .inr (.inr hk)) (fun _ => .inl rfl) Rm'
  · refine (hB5.set 1 Rm').congr fun i hi => ?_
    match i, hi with
    | 0, _ => rfl
    | 1, _ => rfl
  · have e1 := (ownsRow_setCell_other (a := ⟨B, 0, none⟩) hown hab A').alloc o'
    refine ownsRow_setCell_other (e1.kept hg5 ?_) hab _
    cases hv : A'.ownBlock with
    | none => exact .inl rfl
    | some k =>
      refine .inr fun e => ?_
      obtain ⟨c1, i1⟩ := own_heap hown hv
      obtain ⟨c2, i2⟩ := own_heap hR2 e.symm
      rw [i1] at i2
      simp at i2

theorem info59 : (Try.prog.info? 59).map (fun i => (i.zero, i.size, i.bytes)) = some (some (.pointer none), 1, 8) := by kernel_rfl
theorem info3 : (Try.prog.info? 3).map (fun i => (i.zero, i.size, i.bytes)) = some (some (.int .i64 0), 1, 8) := by kernel_rfl

set_option maxHeartbeats 1000000 in
theorem make_in {S : Nat → Prop} {w : World} {B n : Nat} {room : Nat → Nat} {vs : Nat → List Int} (h : Bx S w B n room vs) (hn : n < 1024) (rm : Nat) (h1 : 1 ≤ rm) (h2 : rm ≤ 1024) :
    Calls Try.prog 9 #[ptr B, .int .i64 (rm : Int)] w fun r w' => r = .returned (.tuple #[.int .i64 (n : Int), .int .i64 0]) ∧ Bx (Nxt S w w') w' B (n + 1) (fset room n rm) (fset vs n []) ∧ Frm S w w' := by
  obtain ⟨A, Rm, rb, V, cap, first, y, hA⟩ := id h
  obtain ⟨ap, ca, rfl⟩ := ownsRow_len hA.all
  obtain ⟨rp, cr, rfl⟩ := ownsRow_len hA.rooms
  have k0 : w.cell? ⟨B, 0, none⟩ = some (.slice ap n ca) := hA.head.cell (by omega)
  have hn' : (n : Int) ≠ 1024 := by omega
  obtain ⟨i59, hi, hz0, hz1, hz2⟩ := info_parts info59
  obtain ⟨i3, hi', hz0', hz1', hz2'⟩ := info_parts info3
  have HI := Lib.hid hi
  have HI0 := Lib.hid hz0
  have HI1 := Lib.hid hz1
  have HI2 := Lib.hid hz2
  have HJ := Lib.hid hi'
  have HJ0 := Lib.hid hz0'
  have HJ1 := Lib.hid hz1'
  have HJ2 := Lib.hid hz2'
  have HA := Lib.hid hA
  clear hi hz0 hz1 hz2 hi' hz0' hz1' hz2' hA
  obtain ⟨XS, hXS⟩ : ∃ XS, XS = (List.range n).map fun j => ptr (rb j) := ⟨_, rfl⟩
  obtain ⟨YS, hYS⟩ : ∃ YS, YS = (List.range n).map fun j => Value.int .i64 (room j : Int) := ⟨_, rfl⟩
  have hall : Hid (w.ownsRow 0 59 1 (.slice ap n ca) n XS) := by rw [hXS]; exact HA.out.all
  have hrms : Hid (w.ownsRow 0 3 1 (.slice rp n cr) n YS) := by rw [hYS]; exact HA.out.rooms
  have HX := Lib.hid hXS
  have HY := Lib.hid hYS
  clear hXS hYS
  have hBl : B < w.heap.size := HA.out.head.lt
  go_enter Try.func9, Try.ntmps9
  go_wp2_with (first
    | (at_builtin; refine wpList_append_lies _ rfl (.tmp 27) (.tmp 30) 55 rfl 0 59 i59 (.pointer none) 1 8 Try.underlying55 HI.out HI0.out HI1.out HI2.out rfl (by decide) _ n XS rfl ((hall.out.alloc _).alloc _) ⟨w.heap.size + 1, 0, none⟩ 1 1 [ptr w.heap.size] rfl rfl
        (World.news_of_block (cs := #[ptr w.heap.size]) (t := 59) (fr := (0, 0)) (by have := heap_alloc_new (w.alloc ring0) (.cells #[ptr w.heap.size] 59); rwa [nblk_alloc] at this)) (by simp [Value.oneCell']) (by decide) (by unfold maxLen; omega) (by omega) (Nat.zero_le _) _ rfl ?_; intro g cp w2 hown hgrow hg hgl
       have hB2 := (mk_keep HA.out hgrow).1
       have HR2 := Lib.hid (mk_keep HA.out hgrow).2.1
       have HN := Lib.hid (mk_keep HA.out hgrow).2.2
       rw [← HY.out] at HR2
       have f0 := hB2.frozen 0
       have c0 : w2.cell? ⟨B, 0, none⟩ = some (.slice ap n ca) := hB2.cell (by omega)
       have c1 : w2.cell? ⟨B, 1, none⟩ = some (.slice rp n cr) := hB2.cell (by omega)
       have HB2 := Lib.hid hB2
       have HO2 := Lib.hid hown
       have HG2 := Lib.hid hgrow
       have HH2 := Lib.hid hg
       clear hB2 hown hgrow hg)
    | (at_builtin; refine wpList_append_lies _ rfl (.tmp 38) (.tmp 40) 56 rfl 0 3 i3 (.int .i64 0) 1 8 Try.underlying56 HJ.out HJ0.out HJ1.out HJ2.out rfl (by decide) _ n YS rfl ((ownsRow_setCell_other HR2.out HN.out _).alloc _) ⟨w2.heap.size, 0, none⟩ 1 1 [.int .i64 (rm : Int)] rfl rfl
        (World.news_of_block (cs := #[.int .i64 (rm : Int)]) (t := 3) (fr := (0, 0)) (by have := heap_alloc_new (w2.setCell ⟨B, 0, none⟩ (.slice (some ⟨g, 0, none⟩) (n + 1) cp)) (.cells #[.int .i64 (rm : Int)] 3); rwa [nblk_setCell] at this)) (by simp [Value.oneCell']) (by decide) (by unfold maxLen; omega) (by omega) (Nat.zero_le _) _ rfl ?_; intro g5 cp5 w5 hown5 hgrow5 hg5 hgl5
       have hB5 := mk_five HB2.out HN.out hgrow5
       have f5 := hB5.frozen 1
       have c5 : w5.cell? ⟨B, 0, none⟩ = some (.slice (some ⟨g, 0, none⟩) (n + 1) cp) := hB5.cell (by omega)
       have c6 : w5.cell? ⟨B, 1, none⟩ = some (.slice rp n cr) := hB5.cell (by omega)
       have HO5 := Lib.hid hown5
       have HG5 := Lib.hid hgrow5
       have HH5 := Lib.hid hg5
       clear hB5 hown5 hgrow5 hg5))
  go_ret2
  refine ⟨rfl, mk_fin HA.out hn h1 h2 HG2.out (by rw [← HX.out]; exact HO2.out) (fun k hk => ?_) HG5.out (by rw [← HY.out]; exact HO5.out) (fun k hk => ?_)⟩
  · simp only [Value.ownBlock, Option.some.injEq] at hk
    subst hk
    rcases HH2.out with h3 | h3
    · exact .inl h3
    · rw [nblk_alloc, nblk_alloc] at h3
      exact .inr (by omega)
  · simp only [Value.ownBlock, Option.some.injEq] at hk
    subst hk
    rcases HH5.out with h3 | h3
    · exact .inl h3
    · have h4 := HG2.out.size
      rw [nblk_alloc, nblk_setCell] at h3
      rw [nblk_alloc, nblk_alloc] at h4
      exact .inr (by omega)
end Go.Proofs.Ytnaioobndgflmaa
