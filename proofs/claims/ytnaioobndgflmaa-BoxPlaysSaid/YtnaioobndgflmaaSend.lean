/- Send and Recv: what they answer, and what they leave. For every heap. -/
import Derived.Test.YtnaioobndgflmaaStep
namespace Go.Proofs.Ytnaioobndgflmaa
open Go Go.RowKit Go.Deep
set_option linter.unusedVariables false

theorem send_none (i v : Int) (w : World) : Calls Try.prog 12 #[.pointer none, .int .i64 i, .int .u64 v] w fun r w' => r = .returned (.int .i64 5) ∧ w = w' := by
  go_enter Try.func12, Try.ntmps12
  go_wp2_with (go_at_call 22; refine (find_none _ _).mono ?_; rintro r w' ⟨rfl, rfl⟩)
  go_ret
  exact ⟨rfl, rfl⟩
theorem send_out {S : Nat → Prop} {w : World} {B n : Nat} {room : Nat → Nat} {vs : Nat → List Int} (h : Bx S w B n room vs) (i v : Int) (hi : i < 0 ∨ (n : Int) ≤ i) :
    Calls Try.prog 12 #[ptr B, .int .i64 i, .int .u64 v] w fun r w' => r = .returned (.int .i64 1) ∧ w = w' := by
  go_enter Try.func12, Try.ntmps12
  go_wp2_with (go_at_call 22; refine (find_out h i hi).mono ?_; rintro r w' ⟨rfl, rfl⟩)
  go_ret
  exact ⟨rfl, rfl⟩
theorem send_full {S : Nat → Prop} {w : World} {B n : Nat} {room : Nat → Nat} {vs : Nat → List Int} (h : Bx S w B n room vs) (i : Nat) (v : Int) (hi : i < n) (hf : (vs i).length = room i) :
    Calls Try.prog 12 #[ptr B, .int .i64 (i : Int), .int .u64 v] w fun r w' => r = .returned (.int .i64 7) ∧ w = w' := by
  have HF := Lib.hid (decide_eq_true hf)
  clear hf
  obtain ⟨A, Rm, rb, V, cap, first, y, hA⟩ := id h
  go_enter Try.func12, Try.ntmps12
  go_wp2_with (first
    | (go_at_call 22; refine (find_in hA i hi).mono ?_; rintro r w' ⟨rfl, rfl⟩)
    | (go_at_call 11; refine (full_in h i hi).mono ?_; rw [HF.out]; rintro r w' ⟨rfl, rfl⟩))
  go_ret
  exact ⟨rfl, rfl⟩

theorem _root_.Go.World.rowIs.drewN {w : World} {b : Nat} {t : TypeId} {n : Nat} {f : Nat → Value} (h : w.rowIs b t n f) (m : Nat) : (w.drewN m).rowIs b t n f := h
theorem mod_two {a c : Nat} (h : a < 2 * c) : a % c = if a < c then a else a - c := by
  by_cases h1 : a < c
  · rw [if_pos h1, Nat.mod_eq_of_lt h1]
  · rw [if_neg h1, Nat.mod_eq_sub_mod (by omega), Nat.mod_eq_of_lt (by omega)]
theorem mod_apart {f c j l : Nat} (hf : f < c) (hj : j < l) (hl : l < c) : (f + j) % c ≠ (f + l) % c := by
  rw [mod_two (by omega), mod_two (by omega)]
  split <;> split <;> omega

/-- behind the growth: the value is laid. -/
theorem send_done {S : Nat → Prop} {w w1 : World} {B n : Nat} {room : Nat → Nat} {vs : Nat → List Int} {A Rm : Value} {rb : Nat → Nat} {V : Nat → Value} {cap first : Nat → Nat} {y : Nat → Nat → Value}
    (h : BxAt (Nxt S w w1) w1 B n room vs A Rm rb V cap first y) {i : Nat} (hi : i < n) (hF : Frm (· = rb i) w w1) (hS : S (rb i)) (hl : (vs i).length < cap i) {g : Nat} (hV : V i = .slice (some ⟨g, 0, none⟩) (cap i) (cap i)) {p : Nat} (hp : p = (first i + (vs i).length) % cap i) (v : Int) (m : Nat) {k : Int} (hk : k = ((vs i).length : Int) + 1) :
    Bx (Nxt S w (((w1.drewN m).setCell ⟨g, p, none⟩ (.int .u64 v)).setCell ⟨rb i, 2, none⟩ (.int .i64 k))) (((w1.drewN m).setCell ⟨g, p, none⟩ (.int .u64 v)).setCell ⟨rb i, 2, none⟩ (.int .i64 k)) B n room (fset vs i (vs i ++ [v])) ∧
    Frm S w (((w1.drewN m).setCell ⟨g, p, none⟩ (.int .u64 v)).setCell ⟨rb i, 2, none⟩ (.int .i64 k)) := by
  subst hk
  have hr := h.ring i hi
  have hob : (V i).ownBlock = some g := by rw [hV]; rfl
  have hy : w1.rowIs g 33 (cap i) (y i) := hr.row.row hob
  have hgR : g ≠ rb i := rowIs_ne hy hr.head (by decide)
  have hfc : first i < cap i := by rcases hr.frst with h | h <;> omega
  have hgS : g < w.heap.size → S g := fun hg => by rcases hr.own g hob with h | h <;> first | exact h | omega
  have hSz : ∀ k, Nxt S w w1 k → Nxt S w (((w1.drewN m).setCell ⟨g, p, none⟩ (.int .u64 v)).setCell ⟨rb i, 2, none⟩ (.int .i64 (((vs i).length : Int) + 1))) k := fun k hk => by
    unfold Nxt
    rw [nblk_setCell, nblk_setCell]
    exact hk
  refine ⟨⟨_, _, _, _, _, _, _, h.step hi hSz (w' := ((w1.drewN m).setCell ⟨g, p, none⟩ (.int .u64 v)).setCell ⟨rb i, 2, none⟩ (.int .i64 (((vs i).length : Int) + 1))) (V' := V i) (cap' := cap i) (first' := first i) (y' := fun j => if j = p then .int .u64 v else y i j)
      (Frm.setCell (a := ⟨rb i, 2, none⟩) (Frm.setCell (a := ⟨g, p, none⟩) ((Frm.refl _ w1).drewN m) (fun _ => .inr hob) _) (fun _ => .inl rfl) _)
      ⟨hSz _ hr.mine, ?_, ?_, fun k hk => hSz _ (hr.own k hk), by simp; omega, hr.fits, hr.one, hr.most, hr.frst, ?_, ?_⟩ (fun k hk => .inl hk)⟩, ?_⟩
  · refine (((hr.head.drewN m).setOther (a := ⟨g, p, none⟩) (Ne.symm hgR) (.int .u64 v)).set 2 (.int .i64 (((vs i).length : Int) + 1))).congr fun j hj => ?_
    match j, hj with
    | 0, _ => rfl
    | 1, _ => rfl
    | 2, _ => simp [RF]
  · rw [hV]
    exact .inr ⟨by omega, g, rfl, ((hy.drewN m).set p (.int .u64 v)).setOther hgR _⟩
  · intro j hj
    simp only [List.length_append, List.length_singleton] at hj
    by_cases e : j = (vs i).length
    · subst e
      simp [← hp]
    · have hjl : j < (vs i).length := by omega
      rw [if_neg (by rw [hp]; exact mod_apart hfc hjl hl), hr.at_ j hjl]
      simp [List.getD, List.getElem?_append_left hjl]
  · intro j hj
    by_cases e : j = p
    · exact ⟨v, by simp [e]⟩
    · simp only [if_neg e]
      exact hr.cells j hj
  · refine Frm.setCell (a := ⟨rb i, 2, none⟩) (Frm.setCell (a := ⟨g, p, none⟩) ((hF.mono ?_).drewN m) hgS _) (fun _ => hS) _
    rintro k _ rfl
    exact hS

set_option maxHeartbeats 1000000 in
theorem send_in {S : Nat → Prop} {w : World} {B n : Nat} {room : Nat → Nat} {vs : Nat → List Int} (h : Bx S w B n room vs) (i : Nat) (v : Int) (hi : i < n) (hf : (vs i).length < room i) :
    Calls Try.prog 12 #[ptr B, .int .i64 (i : Int), .int .u64 v] w fun r w' => r = .returned (.int .i64 0) ∧ Bx (Nxt S w w') w' B n room (fset vs i (vs i ++ [v])) ∧ Frm S w w' := by
  have HF := Lib.hid (decide_eq_false (show ¬ (vs i).length = room i by omega))
  obtain ⟨A, Rm, rb, V, cap, first, y, hA⟩ := id h
  obtain ⟨g0, c0, rfl⟩ := ownsRow_slice hA.rooms (by omega)
  have h2 : w.cell? ⟨B, 1, none⟩ = some (.slice (some ⟨g0, 0, none⟩) n c0) := hA.head.cell (by omega)
  have h3 := ownsRow_cell hA.rooms hi
  have hn : (i : Int) < (n : Int) := by omega
  have HA := Lib.hid hA
  clear hA
  go_enter Try.func12, Try.ntmps12
  go_wp2_with (first
    | (go_at_call 22; refine (find_in HA.out i hi).mono ?_; rintro r w' ⟨rfl, rfl⟩)
    | (go_at_call 11; refine (full_in h i hi).mono ?_; rw [HF.out]; rintro r w' ⟨rfl, rfl⟩)
    | (go_at_call 23; refine (grow_bx HA.out hi hf).mono ?_; rintro r w1 ⟨rfl, V1, cap1, first1, y1, hl1, hb1, hf1⟩))
  have hr := hb1.ring i hi
  have H1 := Lib.hid hb1
  have HF1 := Lib.hid hf1
  clear hb1 hf1
  have hfc : first1 i < cap1 i := by rcases hr.frst with h | h <;> omega
  have hcap : cap1 i ≤ 1024 := Nat.le_trans hr.fits hr.most
  obtain ⟨g, hV, hy⟩ : ∃ g, V1 i = .slice (some ⟨g, 0, none⟩) (cap1 i) (cap1 i) ∧ w1.rowIs g 33 (cap1 i) (y1 i) := by
    rcases hr.row with ⟨h0, _⟩ | ⟨_, g, h1, h2⟩
    · omega
    · exact ⟨g, h1, h2⟩
  have hh := hr.head
  rw [hV] at hh
  have k0 : w1.cell? ⟨rb i, 0, none⟩ = some (.slice (some ⟨g, 0, none⟩) (cap1 i) (cap1 i)) := hh.cell (by omega)
  have k1 : w1.cell? ⟨rb i, 1, none⟩ = some (.int .i64 (first1 i : Int)) := hh.cell (by omega)
  have k2 : w1.cell? ⟨rb i, 2, none⟩ = some (.int .i64 ((vs i).length : Int)) := hh.cell (by omega)
  have hgR : g ≠ rb i := rowIs_ne hy hh (by decide)
  obtain ⟨p, hp⟩ : ∃ p, p = (first1 i + (vs i).length) % cap1 i := ⟨_, rfl⟩
  have hpc : p < cap1 i := by rw [hp]; exact Nat.mod_lt _ (by omega)
  have HP := Lib.hid hp
  have hpi : (p : Int) < (cap1 i : Int) := by omega
  have kp := hy.cell hpc
  have kf := hy.frozen p
  have k3 : w1.frozen? ⟨rb i, 2, none⟩ = false := hh.frozen 2
  have HS := Lib.hid ((HA.out.ring i hi).mine)
  have hl2 : (vs i).length ≤ 1024 := by omega
  clear hp hy hh
  go_wp2_with fail
  go_region_with (go_at_call 24; refine (at_c _ _ _ _ _ _ (by assumption) (by assumption) (by omega) hcap (by omega) (by omega)).mono ?_; rw [← HP.out]; rintro r w' ⟨rfl, m, rfl⟩)
  all_goals
    go_wp2
    go_ret
    exact ⟨rfl, send_done H1.out hi HF1.out HS.out hl1 hV HP.out v _ rfl⟩

theorem recv_none (i : Int) (w : World) : Calls Try.prog 13 #[.pointer none, .int .i64 i] w fun r w' => r = .returned (.tuple #[.int .u64 0, .int .i64 5]) ∧ w = w' := by
  go_enter Try.func13, Try.ntmps13
  go_wp2_with (go_at_call 22; refine (find_none _ _).mono ?_; rintro r w' ⟨rfl, rfl⟩)
  go_ret2
  exact ⟨rfl, rfl⟩
theorem recv_out {S : Nat → Prop} {w : World} {B n : Nat} {room : Nat → Nat} {vs : Nat → List Int} (h : Bx S w B n room vs) (i : Int) (hi : i < 0 ∨ (n : Int) ≤ i) :
    Calls Try.prog 13 #[ptr B, .int .i64 i] w fun r w' => r = .returned (.tuple #[.int .u64 0, .int .i64 1]) ∧ w = w' := by
  go_enter Try.func13, Try.ntmps13
  go_wp2_with (go_at_call 22; refine (find_out h i hi).mono ?_; rintro r w' ⟨rfl, rfl⟩)
  go_ret2
  exact ⟨rfl, rfl⟩
theorem recv_empty {S : Nat → Prop} {w : World} {B n : Nat} {room : Nat → Nat} {vs : Nat → List Int} (h : Bx S w B n room vs) (i : Nat) (hi : i < n) (hf : (vs i).length = 0) :
    Calls Try.prog 13 #[ptr B, .int .i64 (i : Int)] w fun r w' => r = .returned (.tuple #[.int .u64 0, .int .i64 7]) ∧ w = w' := by
  obtain ⟨A, Rm, rb, V, cap, first, y, hA⟩ := id h
  have k2 : w.cell? ⟨rb i, 2, none⟩ = some (.int .i64 0) := by
    have := (hA.ring i hi).head.cell (i := 2) (by omega)
    rw [hf] at this
    exact this
  go_enter Try.func13, Try.ntmps13
  go_wp2_with (first
    | (go_at_call 22; refine (find_in hA i hi).mono ?_; rintro r w' ⟨rfl, rfl⟩))
  go_ret2
  exact ⟨rfl, rfl⟩

theorem mod_step {f c j : Nat} (hf : f < c) (hj : j + 1 < c + 1) : ((f + 1) % c + j) % c = (f + (j + 1)) % c := by
  rw [Nat.mod_add_mod]
  congr 1
  omega
theorem recv_done {S : Nat → Prop} {w : World} {B n : Nat} {room : Nat → Nat} {vs : Nat → List Int} {A Rm : Value} {rb : Nat → Nat} {V : Nat → Value} {cap first : Nat → Nat} {y : Nat → Nat → Value}
    (h : BxAt S w B n room vs A Rm rb V cap first y) {i : Nat} (hi : i < n) {x : Int} {rest : List Int} (hx : vs i = x :: rest) {p : Nat} (hp : p = (first i + 1) % cap i) (m : Nat) {k : Int} (hk : k = (rest.length : Int)) :
    Bx (Nxt S w (((w.drewN m).setCell ⟨rb i, 1, none⟩ (.int .i64 (p : Int))).setCell ⟨rb i, 2, none⟩ (.int .i64 k))) (((w.drewN m).setCell ⟨rb i, 1, none⟩ (.int .i64 (p : Int))).setCell ⟨rb i, 2, none⟩ (.int .i64 k)) B n room (fset vs i rest) ∧
    Frm S w (((w.drewN m).setCell ⟨rb i, 1, none⟩ (.int .i64 (p : Int))).setCell ⟨rb i, 2, none⟩ (.int .i64 k)) := by
  subst hk
  have hr := h.ring i hi
  have hlen := hr.len
  rw [hx] at hlen
  simp only [List.length_cons] at hlen
  have hpc : p < cap i := by rw [hp]; exact Nat.mod_lt _ (by omega)
  have hfc : first i < cap i := by rcases hr.frst with h | h <;> omega
  have hVR : (V i).ownBlock ≠ some (rb i) := fun e => rowIs_ne (hr.row.row e) hr.head (by decide) rfl
  refine ⟨⟨_, _, _, _, _, _, _, h.step hi (fun _ h => .inl h) (w' := ((w.drewN m).setCell ⟨rb i, 1, none⟩ (.int .i64 (p : Int))).setCell ⟨rb i, 2, none⟩ (.int .i64 (rest.length : Int))) (vs' := rest) (V' := V i) (cap' := cap i) (first' := p) (y' := y i)
      (Frm.setCell (a := ⟨rb i, 2, none⟩) (Frm.setCell (a := ⟨rb i, 1, none⟩) ((Frm.refl _ w).drewN m) (fun _ => .inl rfl) _) (fun _ => .inl rfl) _)
      ⟨.inl hr.mine, ?_, ?_, fun k hk => .inl (hr.own k hk), by omega, hr.fits, hr.one, hr.most, .inl hpc, ?_, hr.cells⟩ (fun k hk => .inl hk)⟩, ?_⟩
  · refine (((hr.head.drewN m).set 1 (.int .i64 (p : Int))).set 2 (.int .i64 (rest.length : Int))).congr fun j hj => ?_
    match j, hj with
    | 0, _ => rfl
    | 1, _ => rfl
    | 2, _ => rfl
  · refine hr.row.keep fun k hk => ?_
    have hkR : k ≠ rb i := fun e => hVR (by rw [hk, e])
    rw [blk_setCell_other _ _ _ _ hkR, blk_setCell_other _ _ _ _ hkR]
    rfl
  · intro j hj
    rw [hp, mod_step hfc (by omega), hr.at_ (j + 1) (by rw [hx]; simp; omega), hx]
    simp [List.getD]
  · exact Frm.setCell (a := ⟨rb i, 2, none⟩) (Frm.setCell (a := ⟨rb i, 1, none⟩) ((Frm.refl _ w).drewN m) (fun _ => hr.mine) _) (fun _ => hr.mine) _

set_option maxHeartbeats 1000000 in
theorem recv_in {S : Nat → Prop} {w : World} {B n : Nat} {room : Nat → Nat} {vs : Nat → List Int} (h : Bx S w B n room vs) (i : Nat) (hi : i < n) {x : Int} {rest : List Int} (hx : vs i = x :: rest) :
    Calls Try.prog 13 #[ptr B, .int .i64 (i : Int)] w fun r w' => r = .returned (.tuple #[.int .u64 x, .int .i64 0]) ∧ Bx (Nxt S w w') w' B n room (fset vs i rest) ∧ Frm S w w' := by
  obtain ⟨A, Rm, rb, V, cap, first, y, hA⟩ := id h
  have hr := hA.ring i hi
  have hlen := hr.len
  have hlx : (vs i).length = rest.length + 1 := by rw [hx]; rfl
  have hfc : first i < cap i := by rcases hr.frst with h | h <;> omega
  have hcap : cap i ≤ 1024 := Nat.le_trans hr.fits hr.most
  obtain ⟨g, hV, hy⟩ : ∃ g, V i = .slice (some ⟨g, 0, none⟩) (cap i) (cap i) ∧ w.rowIs g 33 (cap i) (y i) := by
    rcases hr.row with ⟨h0, _⟩ | ⟨_, g, h1, h2⟩
    · omega
    · exact ⟨g, h1, h2⟩
  have hh := hr.head
  rw [hV, hlx] at hh
  have k0 : w.cell? ⟨rb i, 0, none⟩ = some (.slice (some ⟨g, 0, none⟩) (cap i) (cap i)) := hh.cell (by omega)
  have k1 : w.cell? ⟨rb i, 1, none⟩ = some (.int .i64 (first i : Int)) := hh.cell (by omega)
  have k2 : w.cell? ⟨rb i, 2, none⟩ = some (.int .i64 ((rest.length + 1 : Nat) : Int)) := hh.cell (by omega)
  have k3 : w.frozen? ⟨rb i, 1, none⟩ = false := hh.frozen 1
  have k4 : w.frozen? ⟨rb i, 2, none⟩ = false := hh.frozen 2
  have ky : w.cell? ⟨g, first i, none⟩ = some (.int .u64 x) := by
    rw [hy.cell hfc]
    have := hr.at_ 0 (by omega)
    rw [Nat.add_zero, Nat.mod_eq_of_lt hfc, hx] at this
    rw [this]
    rfl
  obtain ⟨p, hp⟩ : ∃ p, p = (first i + 1) % cap i := ⟨_, rfl⟩
  have hpc : p < cap i := by rw [hp]; exact Nat.mod_lt _ (by omega)
  have HP := Lib.hid hp
  have hfi : (first i : Int) < (cap i : Int) := by omega
  have hln : rest.length + 1 ≤ 1024 := by omega
  have hl0 : ((rest.length + 1 : Nat) : Int) ≠ 0 := by omega
  have HA := Lib.hid hA
  have HX := Lib.hid hx
  clear hr hA hy hh hp hx hlx hlen
  go_enter Try.func13, Try.ntmps13
  go_wp2_with (first
    | (go_at_call 22; refine (find_in HA.out i hi).mono ?_; rintro r w' ⟨rfl, rfl⟩))
  go_quiet (fail)
  go_wp2_with (first
    | (go_at_call 24; refine (at_c (rb i) (first i) 1 (cap i) (some ⟨g, 0, none⟩) _ (by assumption) (by assumption) (by omega) hcap (by omega) (by omega)).mono ?_; rw [← HP.out]; rintro r w' ⟨rfl, m, rfl⟩))
  go_ret2
  exact ⟨rfl, recv_done HA.out hi HX.out HP.out _ (by omega)⟩
end Go.Proofs.Ytnaioobndgflmaa
