/- CplxParts: quotients of any two, and their parts as integers, are the document's. The walk, for every bits. -/
import Derived.Test.YthadgapgnlghfaaSums
namespace Go.Proofs.Ythadgapgnlghfaa
open Go Go.RowKit Go.Proofs.Ythadgapgnlghfaa.Dbl

theorem order_alike {x y : Nat} (h : AL x y) (c : Nat) : FloatKind.f64.format.order x c = FloatKind.f64.format.order y c := by
  rcases h with rfl | ⟨a, b⟩
  · rfl
  · have e1 : FloatKind.f64.format.order x c = none := order_nan_left a _
    have e2 : FloatKind.f64.format.order y c = none := order_nan_left b _
    rw [e1, e2]
theorem isZ_alike {x y : Nat} (h : AL x y) : isZ x = isZ y := by unfold isZ; rw [order_alike h]
theorem part_alike {x y : Nat} (h : AL x y) : pv x = pv y ∧ pe x = pe y := by
  rcases h with rfl | ⟨a, b⟩
  · exact ⟨rfl, rfl⟩
  · have g : ∀ z, isN z = true → geLo z = false := fun z hz => by
      have e : FloatKind.f64.format.order z 14105274032924393472 = none := order_nan_left hz _
      unfold geLo; rw [e]; rfl
    unfold pv pe
    rw [g x a, g y b]
    exact ⟨rfl, rfl⟩
theorem DivR.alike {a b c d a' b' c' d' re im re' im' : Nat} {k k' : Int} (ha : AL a a') (hb : AL b b') (hc : AL c c') (hd : AL d d') (h : DivR a b c d re im k) (h' : DivR a' b' c' d' re' im' k') :
    AL re re' ∧ AL im im' ∧ k = k' := by
  obtain ⟨n, hn, h⟩ := h
  obtain ⟨n', hn', h'⟩ := h'
  have en := NormR.alike hc hd hn hn'
  have ez := isZ_alike en
  rcases h with ⟨z, rfl, rfl, rfl⟩ | ⟨z, rfl, p, q, r, s, x, y, h1, h2, h3, h4, h5, h6, h7, h8⟩
  · rcases h' with ⟨_, rfl, rfl, rfl⟩ | ⟨z', _⟩
    · exact ⟨AL.refl _, AL.refl _, rfl⟩
    · rw [← ez, z] at z'; cases z'
  · rcases h' with ⟨z', _⟩ | ⟨z', rfl, p', q', r', s', x', y', g1, g2, g3, g4, g5, g6, g7, g8⟩
    · rw [← ez, z] at z'; cases z'
    · have ex := FR.alike (FR.alike ha hc h1 g1) (FR.alike hb hd h2 g2) h3 g3
      have ey := FR.alike (FR.alike hb hc h4 g4) (FR.alike ha hd h5 g5) h6 g6
      exact ⟨FR.alike ex en h7 g7, FR.alike ey en h8 g8, rfl⟩

/-- both numbers' bits, and the document's quotient, lie in memory. -/
abbrev SQ (w : World) (a b c d : Value) (P p q : Nat) (w' : World) : Prop :=
  S4 w a b c d w' ∧ w'.cell? ⟨P, 0, none⟩ = some (.float .f64 p) ∧ w'.cell? ⟨P, 1, none⟩ = some (.float .f64 q) ∧ P < w'.heap.size
theorem SQ.keep {w wc w1 : World} {a b c d : Value} {P p q : Nat} (h : SQ w a b c d P p q wc) (hb : Below wc.heap.size wc w1) : SQ w a b c d P p q w1 := by
  obtain ⟨h0, h1, h2, h3⟩ := h
  obtain ⟨hc, _⟩ := bcell hb
  exact ⟨h0.keep hb, by rw [hc _ _ h3]; exact h1, by rw [hc _ _ h3]; exact h2, Nat.lt_of_lt_of_le h3 hb.size⟩

set_option maxRecDepth 100000 in
set_option maxHeartbeats 40000000 in
theorem parts_walk_false (a b c d : Int) (w : World) : Calls Try.prog 5 #[zu a b, zu c d, .bool false] w fun e w' => e = .returned (.bool true) ∧ Below w.heap.size w w' := by
  have hf0 := field0
  have hf1 := field1
  have hs0 := S4.start w (.int .u64 a) (.int .u64 b) (.int .u64 c) (.int .u64 d) 36 36
  have HS := Lib.hid hs0
  clear hs0
  go_enter Try.func5, Try.ntmps5
  go_wp2_with fail
  go_region_held3 (fun w' => w'.cell? ⟨w.heap.size, 0, none⟩ = some (.int .u64 a) ∧ w'.cell? ⟨w.heap.size, 1, none⟩ = some (.int .u64 b) ∧ w'.cell? ⟨w.heap.size + 1, 0, none⟩ = some (.int .u64 c) ∧ w'.cell? ⟨w.heap.size + 1, 1, none⟩ = some (.int .u64 d) ∧ w.heap.size + 1 < w'.heap.size ∧ Below w.heap.size w w')
    (first | assumption | with_reducible exact S4.drew HS.out | with_reducible exact S4.drewN (by assumption) _ | with_reducible exact S4.keep (by assumption) (by assumption))
    (first | (go_at_call 22; refine (lof_c _ _ _).mono ?_; rintro e w1 ⟨rfl, hb⟩) | (go_at_call 21; refine (div_c _ _ _ _ _).mono ?_; rintro e w' ⟨x, y, z, hv, rfl, k, rfl⟩))
  have hS : S4 w (.int .u64 a) (.int .u64 b) (.int .u64 c) (.int .u64 d) (w1.drewN k) := by assumption
  clear HS hb
  generalize w1.drewN k = W at *
  have HS := Lib.hid hS
  have hsz0 : w.heap.size + 1 < W.heap.size := hS.2.2.2.2.1
  clear hS
  go_wp2_with fail
  go_cut [9, 10] from 16 (fun p t wc => ∃ P re im e, p = .pointer (some ⟨P, 0, none⟩) ∧ t = .int .i64 e ∧ DivR a.toNat b.toNat c.toNat d.toNat re im e ∧ SQ w (.int .u64 a) (.int .u64 b) (.int .u64 c) (.int .u64 d) P re im wc)
  case first =>
    go_region_held3 (fun w' => w'.cell? ⟨w.heap.size, 0, none⟩ = some (.int .u64 a) ∧ w'.cell? ⟨w.heap.size, 1, none⟩ = some (.int .u64 b) ∧ w'.cell? ⟨w.heap.size + 1, 0, none⟩ = some (.int .u64 c) ∧ w'.cell? ⟨w.heap.size + 1, 1, none⟩ = some (.int .u64 d) ∧ w.heap.size + 1 < w'.heap.size ∧ Below w.heap.size w w')
      (repeat (first | assumption | with_reducible exact HS.out | with_reducible exact Hid.out HSx | with_reducible exact S4.keep (by assumption) (by assumption) | with_reducible refine S4.drew ?_ | with_reducible refine S4.alloc ?_ _ | with_reducible refine S4.setCell ?_ (by simp; omega) _))
      (first | (go_at_call 24; refine (lis_x _ _ _).mono ?_; rintro e w' ⟨rfl, rfl⟩) | (go_at_call 23; refine (rdiv_c _ _ _ _ _).mono ?_; rintro e w1 ⟨re, im, ee, hq, rfl, hb⟩; have HSx := Lib.hid (S4.keep (w := w) (a := .int .u64 a) (b := .int .u64 b) (c := .int .u64 c) (d := .int .u64 d) (by assumption) hb); obtain ⟨hc, hf⟩ := bcell hb; (try have hp00 : w1.cell? ⟨W.heap.size, 0, none⟩ = some (.float .f64 0) := by (rw [hc _ _ (by simp <;> omega)]; simp [go_sem])); (try have hq00 : w1.frozen? ⟨W.heap.size, 0, none⟩ = false := by (rw [hf _ _ (by simp <;> omega)]; simp [go_sem])); (try have hp01 : w1.cell? ⟨W.heap.size, 1, none⟩ = some (.float .f64 0) := by (rw [hc _ _ (by simp <;> omega)]; simp [go_sem])); (try have hq01 : w1.frozen? ⟨W.heap.size, 1, none⟩ = false := by (rw [hf _ _ (by simp <;> omega)]; simp [go_sem])); (try have hp30 : w1.cell? ⟨W.heap.size + 1 + 1 + 1, 0, none⟩ = some (.float .f64 0) := by (rw [hc _ _ (by simp <;> omega)]; simp [go_sem])); (try have hq30 : w1.frozen? ⟨W.heap.size + 1 + 1 + 1, 0, none⟩ = false := by (rw [hf _ _ (by simp <;> omega)]; simp [go_sem])); (try have hp31 : w1.cell? ⟨W.heap.size + 1 + 1 + 1, 1, none⟩ = some (.float .f64 0) := by (rw [hc _ _ (by simp <;> omega)]; simp [go_sem])); (try have hq31 : w1.frozen? ⟨W.heap.size + 1 + 1 + 1, 1, none⟩ = false := by (rw [hf _ _ (by simp <;> omega)]; simp [go_sem])); (try have hp60 : w1.cell? ⟨W.heap.size + 1 + 1 + 1 + 1 + 1 + 1, 0, none⟩ = some (.float .f64 0) := by (rw [hc _ _ (by simp <;> omega)]; simp [go_sem])); (try have hq60 : w1.frozen? ⟨W.heap.size + 1 + 1 + 1 + 1 + 1 + 1, 0, none⟩ = false := by (rw [hf _ _ (by simp <;> omega)]; simp [go_sem])); (try have hp61 : w1.cell? ⟨W.heap.size + 1 + 1 + 1 + 1 + 1 + 1, 1, none⟩ = some (.float .f64 0) := by (rw [hc _ _ (by simp <;> omega)]; simp [go_sem])); (try have hq61 : w1.frozen? ⟨W.heap.size + 1 + 1 + 1 + 1 + 1 + 1, 1, none⟩ = false := by (rw [hf _ _ (by simp <;> omega)]; simp [go_sem])); clear hc hf))
    all_goals
      have hbz := hb.size
      have HBZ := Lib.hid hbz
      clear hbz
      go_wp2_with fail
      go_meet
      case rel => exact ⟨_, re, im, ee, rfl, rfl, hq, (show S4 w (.int .u64 a) (.int .u64 b) (.int .u64 c) (.int .u64 d) _ from by assumption), by simp [go_sem, *], by simp [go_sem, *], by have := HBZ.out; simp at this ⊢; try omega⟩
  case rest =>
    obtain ⟨P, re, im, ee, rfl, rfl, hq, hSQ⟩ := hcut
    obtain ⟨e1, e2, rfl⟩ := DivR.alike (al_cn a.toNat) (al_cn b.toNat) (al_cn c.toNat) (al_cn d.toNat) hv hq
    have g1 := (part_alike (al_cn a.toNat)).1
    have g2 := (part_alike (al_cn a.toNat)).2
    have g3 := (part_alike (al_cn b.toNat)).1
    have g4 := (part_alike (al_cn b.toNat)).2
    clear hv hq HS hb
    obtain ⟨⟨c0, c1, c2, c3, s0, b0⟩, p0, p1, sz⟩ := id hSQ
    have HSQ := Lib.hid hSQ
    clear hSQ
    go_wp2_with (first
      | (go_at_call 22; refine (lof_c _ _ _).mono ?_; rintro e w1 ⟨rfl, hb⟩; have hS1 := SQ.keep HSQ.out hb; obtain ⟨⟨c0, c1, c2, c3, s0, b0⟩, p0, p1, sz⟩ := id hS1; clear HSQ; have HSQ := Lib.hid hS1; clear hS1)
      | (go_at_call 24; refine (lis_c _ _ _).mono ?_; rintro e w1 ⟨rfl, hb⟩; have hS1 := SQ.keep HSQ.out hb; obtain ⟨⟨c0, c1, c2, c3, s0, b0⟩, p0, p1, sz⟩ := id hS1; clear HSQ; have HSQ := Lib.hid hS1; clear hS1)
      | (go_at_call 18; refine (part_re _ _ _).mono ?_; rintro e w' ⟨rfl, rfl⟩)
      | (go_at_call 25; refine (rpart_c _ _).mono ?_; rintro e w' ⟨rfl, rfl⟩)
      | (go_at_call 26; refine (like_al _ _ _ _ _ e1 e2).mono ?_; rintro e w1 ⟨rfl, hb⟩; have hS1 := SQ.keep HSQ.out hb; clear HSQ; have HSQ := Lib.hid hS1; clear hS1)
      | (go_at_call 19; refine (num_c _ _).mono ?_; rintro e w' ⟨rfl, rfl⟩)
      | (go_at_call 11; refine (live_c _).mono ?_; rintro e w1 ⟨rfl, hb⟩; have hS1 := SQ.keep HSQ.out hb; clear HSQ; have HSQ := Lib.hid hS1; clear hS1))
    go_ret
    exact ⟨rfl, HSQ.out.1.2.2.2.2.2⟩

set_option maxRecDepth 100000 in
set_option maxHeartbeats 40000000 in
theorem parts_walk_true (a b c d : Int) (w : World) : Calls Try.prog 5 #[zu a b, zu c d, .bool true] w fun e w' => e = .returned (.bool true) ∧ Below w.heap.size w w' := by
  have hf0 := field0
  have hf1 := field1
  have hs0 := S4.start w (.int .u64 a) (.int .u64 b) (.int .u64 c) (.int .u64 d) 36 36
  have HS := Lib.hid hs0
  clear hs0
  go_enter Try.func5, Try.ntmps5
  go_wp2_with fail
  go_region_held3 (fun w' => w'.cell? ⟨w.heap.size, 0, none⟩ = some (.int .u64 a) ∧ w'.cell? ⟨w.heap.size, 1, none⟩ = some (.int .u64 b) ∧ w'.cell? ⟨w.heap.size + 1, 0, none⟩ = some (.int .u64 c) ∧ w'.cell? ⟨w.heap.size + 1, 1, none⟩ = some (.int .u64 d) ∧ w.heap.size + 1 < w'.heap.size ∧ Below w.heap.size w w')
    (first | assumption | with_reducible exact S4.drew HS.out | with_reducible exact S4.drewN (by assumption) _ | with_reducible exact S4.keep (by assumption) (by assumption))
    (first | (go_at_call 22; refine (lof_c _ _ _).mono ?_; rintro e w1 ⟨rfl, hb⟩) | (go_at_call 21; refine (div_c _ _ _ _ _).mono ?_; rintro e w' ⟨x, y, z, hv, rfl, k, rfl⟩))
  have hS : S4 w (.int .u64 a) (.int .u64 b) (.int .u64 c) (.int .u64 d) (w1.drewN k) := by assumption
  clear HS hb
  generalize w1.drewN k = W at *
  have HS := Lib.hid hS
  have hsz0 : w.heap.size + 1 < W.heap.size := hS.2.2.2.2.1
  clear hS
  go_wp2_with fail
  go_cut [9, 10] from 16 (fun p t wc => ∃ P re im e, p = .pointer (some ⟨P, 0, none⟩) ∧ t = .int .i64 e ∧ DivR a.toNat b.toNat c.toNat d.toNat re im e ∧ SQ w (.int .u64 a) (.int .u64 b) (.int .u64 c) (.int .u64 d) P re im wc)
  case first =>
    go_region_held3 (fun w' => w'.cell? ⟨w.heap.size, 0, none⟩ = some (.int .u64 a) ∧ w'.cell? ⟨w.heap.size, 1, none⟩ = some (.int .u64 b) ∧ w'.cell? ⟨w.heap.size + 1, 0, none⟩ = some (.int .u64 c) ∧ w'.cell? ⟨w.heap.size + 1, 1, none⟩ = some (.int .u64 d) ∧ w.heap.size + 1 < w'.heap.size ∧ Below w.heap.size w w')
      (repeat (first | assumption | with_reducible exact HS.out | with_reducible exact Hid.out HSx | with_reducible exact S4.keep (by assumption) (by assumption) | with_reducible refine S4.drew ?_ | with_reducible refine S4.alloc ?_ _ | with_reducible refine S4.setCell ?_ (by simp; omega) _))
      (first | (go_at_call 24; refine (lis_x _ _ _).mono ?_; rintro e w' ⟨rfl, rfl⟩) | (go_at_call 23; refine (rdiv_c _ _ _ _ _).mono ?_; rintro e w1 ⟨re, im, ee, hq, rfl, hb⟩; have HSx := Lib.hid (S4.keep (w := w) (a := .int .u64 a) (b := .int .u64 b) (c := .int .u64 c) (d := .int .u64 d) (by assumption) hb); obtain ⟨hc, hf⟩ := bcell hb; (try have hp00 : w1.cell? ⟨W.heap.size, 0, none⟩ = some (.float .f64 0) := by (rw [hc _ _ (by simp <;> omega)]; simp [go_sem])); (try have hq00 : w1.frozen? ⟨W.heap.size, 0, none⟩ = false := by (rw [hf _ _ (by simp <;> omega)]; simp [go_sem])); (try have hp01 : w1.cell? ⟨W.heap.size, 1, none⟩ = some (.float .f64 0) := by (rw [hc _ _ (by simp <;> omega)]; simp [go_sem])); (try have hq01 : w1.frozen? ⟨W.heap.size, 1, none⟩ = false := by (rw [hf _ _ (by simp <;> omega)]; simp [go_sem])); (try have hp30 : w1.cell? ⟨W.heap.size + 1 + 1 + 1, 0, none⟩ = some (.float .f64 0) := by (rw [hc _ _ (by simp <;> omega)]; simp [go_sem])); (try have hq30 : w1.frozen? ⟨W.heap.size + 1 + 1 + 1, 0, none⟩ = false := by (rw [hf _ _ (by simp <;> omega)]; simp [go_sem])); (try have hp31 : w1.cell? ⟨W.heap.size + 1 + 1 + 1, 1, none⟩ = some (.float .f64 0) := by (rw [hc _ _ (by simp <;> omega)]; simp [go_sem])); (try have hq31 : w1.frozen? ⟨W.heap.size + 1 + 1 + 1, 1, none⟩ = false := by (rw [hf _ _ (by simp <;> omega)]; simp [go_sem])); (try have hp60 : w1.cell? ⟨W.heap.size + 1 + 1 + 1 + 1 + 1 + 1, 0, none⟩ = some (.float .f64 0) := by (rw [hc _ _ (by simp <;> omega)]; simp [go_sem])); (try have hq60 : w1.frozen? ⟨W.heap.size + 1 + 1 + 1 + 1 + 1 + 1, 0, none⟩ = false := by (rw [hf _ _ (by simp <;> omega)]; simp [go_sem])); (try have hp61 : w1.cell? ⟨W.heap.size + 1 + 1 + 1 + 1 + 1 + 1, 1, none⟩ = some (.float .f64 0) := by (rw [hc _ _ (by simp <;> omega)]; simp [go_sem])); (try have hq61 : w1.frozen? ⟨W.heap.size + 1 + 1 + 1 + 1 + 1 + 1, 1, none⟩ = false := by (rw [hf _ _ (by simp <;> omega)]; simp [go_sem])); clear hc hf))
    all_goals
      have hbz := hb.size
      have HBZ := Lib.hid hbz
      clear hbz
      go_wp2_with fail
      go_meet
      case rel => exact ⟨_, re, im, ee, rfl, rfl, hq, (show S4 w (.int .u64 a) (.int .u64 b) (.int .u64 c) (.int .u64 d) _ from by assumption), by simp [go_sem, *], by simp [go_sem, *], by have := HBZ.out; simp at this ⊢; try omega⟩
  case rest =>
    obtain ⟨P, re, im, ee, rfl, rfl, hq, hSQ⟩ := hcut
    obtain ⟨e1, e2, rfl⟩ := DivR.alike (al_cn a.toNat) (al_cn b.toNat) (al_cn c.toNat) (al_cn d.toNat) hv hq
    have g1 := (part_alike (al_cn a.toNat)).1
    have g2 := (part_alike (al_cn a.toNat)).2
    have g3 := (part_alike (al_cn b.toNat)).1
    have g4 := (part_alike (al_cn b.toNat)).2
    clear hv hq HS hb
    obtain ⟨⟨c0, c1, c2, c3, s0, b0⟩, p0, p1, sz⟩ := id hSQ
    have HSQ := Lib.hid hSQ
    clear hSQ
    go_wp2_with (first
      | (go_at_call 22; refine (lof_c _ _ _).mono ?_; rintro e w1 ⟨rfl, hb⟩; have hS1 := SQ.keep HSQ.out hb; obtain ⟨⟨c0, c1, c2, c3, s0, b0⟩, p0, p1, sz⟩ := id hS1; clear HSQ; have HSQ := Lib.hid hS1; clear hS1)
      | (go_at_call 24; refine (lis_c _ _ _).mono ?_; rintro e w1 ⟨rfl, hb⟩; have hS1 := SQ.keep HSQ.out hb; obtain ⟨⟨c0, c1, c2, c3, s0, b0⟩, p0, p1, sz⟩ := id hS1; clear HSQ; have HSQ := Lib.hid hS1; clear hS1)
      | (go_at_call 18; refine (part_im _ _ _).mono ?_; rintro e w' ⟨rfl, rfl⟩)
      | (go_at_call 25; refine (rpart_c _ _).mono ?_; rintro e w' ⟨rfl, rfl⟩)
      | (go_at_call 26; refine (like_al _ _ _ _ _ e1 e2).mono ?_; rintro e w1 ⟨rfl, hb⟩; have hS1 := SQ.keep HSQ.out hb; clear HSQ; have HSQ := Lib.hid hS1; clear hS1)
      | (go_at_call 19; refine (num_c _ _).mono ?_; rintro e w' ⟨rfl, rfl⟩)
      | (go_at_call 11; refine (live_c _).mono ?_; rintro e w1 ⟨rfl, hb⟩; have hS1 := SQ.keep HSQ.out hb; clear HSQ; have HSQ := Lib.hid hS1; clear hS1))
    go_ret
    exact ⟨rfl, HSQ.out.1.2.2.2.2.2⟩

theorem parts_walk (a b c d : Int) (im : Bool) (w : World) : Calls Try.prog 5 #[zu a b, zu c d, .bool im] w fun e w' => e = .returned (.bool true) ∧ Below w.heap.size w w' := by
  cases im
  · exact parts_walk_false a b c d w
  · exact parts_walk_true a b c d w
end Go.Proofs.Ythadgapgnlghfaa
