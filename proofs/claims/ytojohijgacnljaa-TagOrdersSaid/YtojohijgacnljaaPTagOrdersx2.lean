-- PRINTED BY print.sh 35421559b90ae4d0a3588c463048766b98c2df88dd9212a6774a882060cdf62d: not written by this session
import Derived.Test.YtojohijgacnljaaPTagOrdersx0
import Derived.Test.YtojohijgacnljaaPTagOrdersx1
namespace Go.Proofs.Ytojohijgacnljaa.PTagOrders
open Go.RowKit Go.Proofs.YtojohijgacnljaaW.PrintWords Go.Proofs.YtojohijgacnljaaW.PrintLast Go.Proofs.YtojohijgacnljaaW.PrintMore
attribute [local go_sem] max2_int min2_int max_two min_two max_three min_three max_four min_four   -- for this text's walks alone
set_option linter.unusedVariables false
set_option linter.unusedSimpArgs false

/-! ### jacquardref01_Wrap: function 42 -/
def jacquardref01_Wrap.f (a0 : Int) : Option (Int) := if (wrap64 (Int.tmod (IntKind.u64.wrap (a0)) 4611686018427387904)) > 2305843009213693951 then (some (wrap64 ((wrap64 ((wrap64 (Int.tmod (IntKind.u64.wrap (a0)) 4611686018427387904)) - 2305843009213693952)) - 2305843009213693952))) else (some (wrap64 (Int.tmod (IntKind.u64.wrap (a0)) 4611686018427387904)))
set_option maxHeartbeats 8000000 in
set_option maxRecDepth 100000 in
theorem jacquardref01_Wrap.calls (a0 : Int) (r : Int) (w : World) (h : jacquardref01_Wrap.f a0 = some r) :
    Calls Try.prog 42 #[.int .i64 a0] w fun e w' => e = .returned (.int .i64 r) ∧ Drawn0 w w' := by
  have H : (if (wrap64 (Int.tmod (IntKind.u64.wrap (a0)) 4611686018427387904)) > 2305843009213693951 then (some (wrap64 ((wrap64 ((wrap64 (Int.tmod (IntKind.u64.wrap (a0)) 4611686018427387904)) - 2305843009213693952)) - 2305843009213693952))) else (some (wrap64 (Int.tmod (IntKind.u64.wrap (a0)) 4611686018427387904)))) = some r := h
  clear h
  by_cases c2 : (wrap64 (Int.tmod (IntKind.u64.wrap (a0)) 4611686018427387904)) > 2305843009213693951
  · rw [if_pos c2] at H
    have c2b0 : decide (2305843009213693951 < (wrap64 (Int.tmod (IntKind.u64.wrap (a0)) 4611686018427387904))) = true := decide_eq_true c2
    clear c2
    obtain rfl := Option.some.inj H
    go_enter Try.func42, Try.ntmps42
    go_wp2
    go_ret
    exact ⟨by first | rfl | (simp; done) | (simp [*]; done), by repeat (first | exact Drawn0.refl _ | apply Drawn0.step)⟩
  · rw [if_neg c2] at H
    have c2b0 : decide (2305843009213693951 < (wrap64 (Int.tmod (IntKind.u64.wrap (a0)) 4611686018427387904))) = false := decide_eq_false c2
    clear c2
    obtain rfl := Option.some.inj H
    go_enter Try.func42, Try.ntmps42
    go_wp2
    go_ret
    exact ⟨by first | rfl | (simp; done) | (simp [*]; done), by repeat (first | exact Drawn0.refl _ | apply Drawn0.step)⟩

/-! ### jacquardref01_Num: function 26 -/
def jacquardref01_Num.f (a0 : Int) : Option (Int × Bool) := if (Int.tmod a0 4) = 0 then ((jacquardref01_Wrap.f (wrap64 (IntKind.u64.wrap (Int.tdiv a0 4)))).bind fun t139 => (some (t139, true))) else (some (0, false))
set_option maxHeartbeats 8000000 in
set_option maxRecDepth 100000 in
theorem jacquardref01_Num.calls (a0 : Int) (r1 : Int) (r2 : Bool) (w : World) (h : jacquardref01_Num.f a0 = some (r1, r2)) :
    Calls Try.prog 26 #[.int .u64 a0] w fun e w' => e = .returned (.tuple #[.int .i64 r1, .bool r2]) ∧ Drawn0 w w' := by
  have H : (if (Int.tmod a0 4) = 0 then ((jacquardref01_Wrap.f (wrap64 (IntKind.u64.wrap (Int.tdiv a0 4)))).bind fun t139 => (some (t139, true))) else (some (0, false))) = some (r1, r2) := h
  clear h
  by_cases c2 : (Int.tmod a0 4) = 0
  · rw [if_pos c2] at H
    have c2b0 : ((Int.tmod a0 4) == 0) = true := beq_iff_eq.mpr c2
    have c2b1 : ((Int.tmod a0 4) != 0) = false := bne_eq_false_iff_eq.mpr c2
    clear c2
    replace H := Option.bind_eq_some_iff.mp H
    obtain ⟨t139, A30, H⟩ := H
    replace H : (some (t139, true)) = some (r1, r2) := H
    have A3 := Aside0.mk A30
    clear A30
    simp only [Option.some.injEq, Prod.mk.injEq] at H
    obtain ⟨rfl, rfl⟩ := H
    go_enter Try.func26, Try.ntmps26
    go_wp2_with (first | ((with_reducible refine gate_callee (f := 42) rfl ?_); refine goesL_ (some 10) rfl rfl Try.func42 (by kernel_rfl) rfl #[.int .i64 (wrap64 (IntKind.u64.wrap (Int.tdiv a0 4)))] rfl (by (try simp only [List.map_toArray, List.map_cons, List.map_nil]); first | done | rfl | (simp only [List.length_drop, List.length_take]; rfl)) ?_; (with_reducible refine (jacquardref01_Wrap.calls (wrap64 (IntKind.u64.wrap (Int.tdiv a0 4))) t139 _ A3.out).mono ?_); rintro e w' ⟨rfl, ⟨nd, rfl⟩⟩; refine ⟨_, rfl, ?_⟩))
    go_ret2
    exact ⟨by first | rfl | (simp; done) | (simp [*]; done), by repeat (first | exact Drawn0.refl _ | apply Drawn0.step)⟩
  · rw [if_neg c2] at H
    have c2b0 : ((Int.tmod a0 4) == 0) = false := beq_eq_false_iff_ne.mpr c2
    have c2b1 : ((Int.tmod a0 4) != 0) = true := bne_iff_ne.mpr c2
    simp only [Option.some.injEq, Prod.mk.injEq] at H
    obtain ⟨rfl, rfl⟩ := H
    go_enter Try.func26, Try.ntmps26
    go_wp2
    go_ret2
    exact ⟨by first | rfl | (simp; done) | (simp [*]; done), by repeat (first | exact Drawn0.refl _ | apply Drawn0.step)⟩

/-! ### jacquardref01_Less: function 33 -/
def jacquardref01_Less.f (a0 : Int) (a1 : Int) : Option (Bool × Int) := (jacquardref01_Num.f a0).bind fun bt140 => ((jacquardref01_Num.f a1).bind fun bt142 => (if bt140.2 = true then (if bt142.2 = true then (some (decide (bt140.1 < bt142.1), 0)) else (some (false, 8))) else (some (false, 8))))
set_option maxHeartbeats 8000000 in
set_option maxRecDepth 100000 in
theorem jacquardref01_Less.calls (a0 : Int) (a1 : Int) (r1 : Bool) (r2 : Int) (w : World) (h : jacquardref01_Less.f a0 a1 = some (r1, r2)) :
    Calls Try.prog 33 #[.int .u64 a0, .int .u64 a1] w fun e w' => e = .returned (.tuple #[.bool r1, .int .i64 r2]) ∧ Drawn0 w w' := by
  have H : ((jacquardref01_Num.f a0).bind fun bt140 => ((jacquardref01_Num.f a1).bind fun bt142 => (if bt140.2 = true then (if bt142.2 = true then (some (decide (bt140.1 < bt142.1), 0)) else (some (false, 8))) else (some (false, 8))))) = some (r1, r2) := h
  clear h
  replace H := Option.bind_eq_some_iff.mp H
  obtain ⟨⟨t140, t141⟩, A30, H⟩ := H
  replace H : ((jacquardref01_Num.f a1).bind fun bt142 => (if t141 = true then (if bt142.2 = true then (some (decide (t140 < bt142.1), 0)) else (some (false, 8))) else (some (false, 8)))) = some (r1, r2) := H
  have A3 := Aside0.mk A30
  clear A30
  replace H := Option.bind_eq_some_iff.mp H
  obtain ⟨⟨t142, t143⟩, A40, H⟩ := H
  replace H : (if t141 = true then (if t143 = true then (some (decide (t140 < t142), 0)) else (some (false, 8))) else (some (false, 8))) = some (r1, r2) := H
  have A4 := Aside0.mk A40
  clear A40
  by_cases c5 : t141 = true
  · subst c5
    have H1 : (if t143 = true then (some (decide (t140 < t142), 0)) else (some (false, 8))) = some (r1, r2) := by rw [if_pos rfl] at H; exact H
    clear H
    have H := H1
    clear H1
    by_cases c6 : t143 = true
    · subst c6
      have H1 : (some (decide (t140 < t142), 0)) = some (r1, r2) := by rw [if_pos rfl] at H; exact H
      clear H
      have H := H1
      clear H1
      simp only [Option.some.injEq, Prod.mk.injEq] at H
      obtain ⟨rfl, rfl⟩ := H
      go_enter Try.func33, Try.ntmps33
      go_wp2_with (first | ((with_reducible refine gate_callee (f := 26) rfl ?_); refine goesL_ (some 12) rfl rfl Try.func26 (by kernel_rfl) rfl #[.int .u64 a0] rfl (by (try simp only [List.map_toArray, List.map_cons, List.map_nil]); first | done | rfl | (simp only [List.length_drop, List.length_take]; rfl)) ?_; (with_reducible refine (jacquardref01_Num.calls a0 t140 true _ A3.out).mono ?_); rintro e w' ⟨rfl, ⟨nd, rfl⟩⟩; refine ⟨_, rfl, ?_⟩) | ((with_reducible refine gate_callee (f := 26) rfl ?_); refine goesL_ (some 17) rfl rfl Try.func26 (by kernel_rfl) rfl #[.int .u64 a1] rfl (by (try simp only [List.map_toArray, List.map_cons, List.map_nil]); first | done | rfl | (simp only [List.length_drop, List.length_take]; rfl)) ?_; (with_reducible refine (jacquardref01_Num.calls a1 t142 true _ A4.out).mono ?_); rintro e w' ⟨rfl, ⟨nd, rfl⟩⟩; refine ⟨_, rfl, ?_⟩))
      go_ret2
      exact ⟨by first | rfl | (simp; done) | (simp [*]; done), by repeat (first | exact Drawn0.refl _ | apply Drawn0.step)⟩
    · replace c6 := Bool.eq_false_iff.mpr c6
      subst c6
      have H1 : (some (false, 8)) = some (r1, r2) := by rw [if_neg (show ¬ (false = true) by decide)] at H; exact H
      clear H
      have H := H1
      clear H1
      simp only [Option.some.injEq, Prod.mk.injEq] at H
      obtain ⟨rfl, rfl⟩ := H
      go_enter Try.func33, Try.ntmps33
      go_wp2_with (first | ((with_reducible refine gate_callee (f := 26) rfl ?_); refine goesL_ (some 12) rfl rfl Try.func26 (by kernel_rfl) rfl #[.int .u64 a0] rfl (by (try simp only [List.map_toArray, List.map_cons, List.map_nil]); first | done | rfl | (simp only [List.length_drop, List.length_take]; rfl)) ?_; (with_reducible refine (jacquardref01_Num.calls a0 t140 true _ A3.out).mono ?_); rintro e w' ⟨rfl, ⟨nd, rfl⟩⟩; refine ⟨_, rfl, ?_⟩) | ((with_reducible refine gate_callee (f := 26) rfl ?_); refine goesL_ (some 17) rfl rfl Try.func26 (by kernel_rfl) rfl #[.int .u64 a1] rfl (by (try simp only [List.map_toArray, List.map_cons, List.map_nil]); first | done | rfl | (simp only [List.length_drop, List.length_take]; rfl)) ?_; (with_reducible refine (jacquardref01_Num.calls a1 t142 false _ A4.out).mono ?_); rintro e w' ⟨rfl, ⟨nd, rfl⟩⟩; refine ⟨_, rfl, ?_⟩))
      go_ret2
      exact ⟨by first | rfl | (simp; done) | (simp [*]; done), by repeat (first | exact Drawn0.refl _ | apply Drawn0.step)⟩
  · replace c5 := Bool.eq_false_iff.mpr c5
    subst c5
    have H1 : (some (false, 8)) = some (r1, r2) := by rw [if_neg (show ¬ (false = true) by decide)] at H; exact H
    clear H
    have H := H1
    clear H1
    simp only [Option.some.injEq, Prod.mk.injEq] at H
    obtain ⟨rfl, rfl⟩ := H
    go_enter Try.func33, Try.ntmps33
    go_wp2_with (first | ((with_reducible refine gate_callee (f := 26) rfl ?_); refine goesL_ (some 12) rfl rfl Try.func26 (by kernel_rfl) rfl #[.int .u64 a0] rfl (by (try simp only [List.map_toArray, List.map_cons, List.map_nil]); first | done | rfl | (simp only [List.length_drop, List.length_take]; rfl)) ?_; (with_reducible refine (jacquardref01_Num.calls a0 t140 false _ A3.out).mono ?_); rintro e w' ⟨rfl, ⟨nd, rfl⟩⟩; refine ⟨_, rfl, ?_⟩) | ((with_reducible refine gate_callee (f := 26) rfl ?_); refine goesL_ (some 17) rfl rfl Try.func26 (by kernel_rfl) rfl #[.int .u64 a1] rfl (by (try simp only [List.map_toArray, List.map_cons, List.map_nil]); first | done | rfl | (simp only [List.length_drop, List.length_take]; rfl)) ?_; (with_reducible refine (jacquardref01_Num.calls a1 t142 t143 _ A4.out).mono ?_); rintro e w' ⟨rfl, ⟨nd, rfl⟩⟩; refine ⟨_, rfl, ?_⟩))
    go_ret2
    exact ⟨by first | rfl | (simp; done) | (simp [*]; done), by repeat (first | exact Drawn0.refl _ | apply Drawn0.step)⟩

/-! ### jacquardlaw01_TagOrders: function 9 -/
def jacquardlaw01_TagOrders.j0 : Nat → Int → Int → Bool → Int → Bool → Bool → Option (Bool)
  | 0, _, _, _, _, _, _ => none
  | k + 1, x0, x1, x5, x8, x9, x43 => if x43 = true then (some false) else (if x8 = 0 then (if x5 = true then (if x9 = true then (some false) else (if (true == (x0 != x1)) = true then ((jacquardlaw01_live.f k).bind fun t152 => (some t152)) else (some false))) else (if (x9 == (x0 != x1)) = true then ((jacquardlaw01_live.f k).bind fun t153 => (some t153)) else (some false))) else (if x9 = true then (some false) else ((jacquardlaw01_live.f k).bind fun t154 => (some t154))))
def jacquardlaw01_TagOrders.f (k : Nat) (a0 : Int) (a1 : Int) : Option (Bool) := (tag_Less.f a0 a1).bind fun bt144 => ((jacquardref01_Less.f a0 a1).bind fun bt146 => ((tag_Less.f a1 a0).bind fun bt148 => (if (bt144.1 != bt146.1) = true then (jacquardlaw01_TagOrders.j0 k a0 a1 bt144.1 bt146.2 bt148.1 true) else ((jacquardlaw01_num.f bt144.2).bind fun t150 => (if t150 = bt146.2 then ((jacquardlaw01_num.f bt148.2).bind fun t151 => (jacquardlaw01_TagOrders.j0 k a0 a1 bt144.1 bt146.2 bt148.1 (t151 != bt146.2))) else (jacquardlaw01_TagOrders.j0 k a0 a1 bt144.1 bt146.2 bt148.1 true))))))
theorem jacquardlaw01_TagOrders.mono_l : ∀ k, (∀ y0 y1 y2 y3 y4 y5, LeO (jacquardlaw01_TagOrders.j0 k y0 y1 y2 y3 y4 y5) (jacquardlaw01_TagOrders.j0 (k + 1) y0 y1 y2 y3 y4 y5))
  | 0 => fun _ _ _ _ _ _ r h => by simp [jacquardlaw01_TagOrders.j0] at h
  | k + 1 => by
    have ih0 := jacquardlaw01_TagOrders.mono_l k
    · intro y0 y1 y2 y3 y4 y5
      unfold jacquardlaw01_TagOrders.j0
      repeat' first
      | (with_reducible exact ih0 _ _ _ _ _ _)
      | (with_reducible exact jacquardlaw01_live.mono _)
      | (with_reducible exact LeO.refl _)
      | (with_reducible exact LeO.none _)
      | (with_reducible refine LeO.ite ?_ ?_)
      | (with_reducible refine LeO.bind ?_ (fun _ => ?_))
      | exact ih0 _ _ _ _ _ _
      | exact jacquardlaw01_live.mono _
      | exact LeO.none _
      | refine LeO.ite ?_ ?_
      | refine LeO.bind ?_ (fun _ => ?_)
theorem jacquardlaw01_TagOrders.mono : ∀ a0 a1 k, LeO (jacquardlaw01_TagOrders.f k a0 a1) (jacquardlaw01_TagOrders.f (k + 1) a0 a1) := by
  intro a0 a1 k
  have ih0 := jacquardlaw01_TagOrders.mono_l k
  unfold jacquardlaw01_TagOrders.f
  repeat' first
      | (with_reducible exact ih0 _ _ _ _ _ _)
      | (with_reducible exact jacquardlaw01_live.mono _)
      | (with_reducible exact LeO.refl _)
      | (with_reducible exact LeO.none _)
      | (with_reducible refine LeO.ite ?_ ?_)
      | (with_reducible refine LeO.bind ?_ (fun _ => ?_))
      | exact ih0 _ _ _ _ _ _
      | exact jacquardlaw01_live.mono _
      | exact LeO.none _
      | refine LeO.ite ?_ ?_
      | refine LeO.bind ?_ (fun _ => ?_)
set_option maxHeartbeats 8000000 in
set_option maxRecDepth 100000 in
theorem jacquardlaw01_TagOrders.calls (k : Nat) (a0 : Int) (a1 : Int) (r : Bool) (w : World) (h : jacquardlaw01_TagOrders.f k a0 a1 = some r) :
    Calls Try.prog 9 #[.int .u64 a0, .int .u64 a1] w fun e w' => e = .returned (.bool r) ∧ Drawn0 w w' := by
  have H : ((tag_Less.f a0 a1).bind fun bt144 => ((jacquardref01_Less.f a0 a1).bind fun bt146 => ((tag_Less.f a1 a0).bind fun bt148 => (if (bt144.1 != bt146.1) = true then (jacquardlaw01_TagOrders.j0 k a0 a1 bt144.1 bt146.2 bt148.1 true) else ((jacquardlaw01_num.f bt144.2).bind fun t150 => (if t150 = bt146.2 then ((jacquardlaw01_num.f bt148.2).bind fun t151 => (jacquardlaw01_TagOrders.j0 k a0 a1 bt144.1 bt146.2 bt148.1 (t151 != bt146.2))) else (jacquardlaw01_TagOrders.j0 k a0 a1 bt144.1 bt146.2 bt148.1 true))))))) = some r := h
  clear h
  replace H := Option.bind_eq_some_iff.mp H
  obtain ⟨⟨t144, t145⟩, A30, H⟩ := H
  replace H : ((jacquardref01_Less.f a0 a1).bind fun bt146 => ((tag_Less.f a1 a0).bind fun bt148 => (if (t144 != bt146.1) = true then (jacquardlaw01_TagOrders.j0 k a0 a1 t144 bt146.2 bt148.1 true) else ((jacquardlaw01_num.f t145).bind fun t150 => (if t150 = bt146.2 then ((jacquardlaw01_num.f bt148.2).bind fun t151 => (jacquardlaw01_TagOrders.j0 k a0 a1 t144 bt146.2 bt148.1 (t151 != bt146.2))) else (jacquardlaw01_TagOrders.j0 k a0 a1 t144 bt146.2 bt148.1 true)))))) = some r := H
  have A3 := Aside0.mk A30
  clear A30
  replace H := Option.bind_eq_some_iff.mp H
  obtain ⟨⟨t146, t147⟩, A40, H⟩ := H
  replace H : ((tag_Less.f a1 a0).bind fun bt148 => (if (t144 != t146) = true then (jacquardlaw01_TagOrders.j0 k a0 a1 t144 t147 bt148.1 true) else ((jacquardlaw01_num.f t145).bind fun t150 => (if t150 = t147 then ((jacquardlaw01_num.f bt148.2).bind fun t151 => (jacquardlaw01_TagOrders.j0 k a0 a1 t144 t147 bt148.1 (t151 != t147))) else (jacquardlaw01_TagOrders.j0 k a0 a1 t144 t147 bt148.1 true))))) = some r := H
  have A4 := Aside0.mk A40
  clear A40
  replace H := Option.bind_eq_some_iff.mp H
  obtain ⟨⟨t148, t149⟩, A50, H⟩ := H
  replace H : (if (t144 != t146) = true then (jacquardlaw01_TagOrders.j0 k a0 a1 t144 t147 t148 true) else ((jacquardlaw01_num.f t145).bind fun t150 => (if t150 = t147 then ((jacquardlaw01_num.f t149).bind fun t151 => (jacquardlaw01_TagOrders.j0 k a0 a1 t144 t147 t148 (t151 != t147))) else (jacquardlaw01_TagOrders.j0 k a0 a1 t144 t147 t148 true)))) = some r := H
  have A5 := Aside0.mk A50
  clear A50
  have HC6 := Aside0.mk H
  clear H
  go_enter Try.func9, Try.ntmps9
  go_upto_region 4 with (first | ((with_reducible refine gate_callee (f := 32) rfl ?_); refine goesL_ (some 14) rfl rfl Try.func32 (by kernel_rfl) rfl #[.int .u64 a0, .int .u64 a1] rfl (by (try simp only [List.map_toArray, List.map_cons, List.map_nil]); first | done | rfl | (simp only [List.length_drop, List.length_take]; rfl)) ?_; (with_reducible refine (tag_Less.calls a0 a1 t144 t145 _ A3.out).mono ?_); rintro e w' ⟨rfl, ⟨nd, rfl⟩⟩; refine ⟨_, rfl, ?_⟩) | ((with_reducible refine gate_callee (f := 33) rfl ?_); refine goesL_ (some 20) rfl rfl Try.func33 (by kernel_rfl) rfl #[.int .u64 a0, .int .u64 a1] rfl (by (try simp only [List.map_toArray, List.map_cons, List.map_nil]); first | done | rfl | (simp only [List.length_drop, List.length_take]; rfl)) ?_; (with_reducible refine (jacquardref01_Less.calls a0 a1 t146 t147 _ A4.out).mono ?_); rintro e w' ⟨rfl, ⟨nd, rfl⟩⟩; refine ⟨_, rfl, ?_⟩) | ((with_reducible refine gate_callee (f := 32) rfl ?_); refine goesL_ (some 26) rfl rfl Try.func32 (by kernel_rfl) rfl #[.int .u64 a1, .int .u64 a0] rfl (by (try simp only [List.map_toArray, List.map_cons, List.map_nil]); first | done | rfl | (simp only [List.length_drop, List.length_take]; rfl)) ?_; (with_reducible refine (tag_Less.calls a1 a0 t148 t149 _ A5.out).mono ?_); rintro e w' ⟨rfl, ⟨nd, rfl⟩⟩; refine ⟨_, rfl, ?_⟩))
  (try simp only [Act.put, List.setIfInBounds_toArray, List.set_cons_zero, List.set_cons_succ])
  go_cut [43] (fun v43 wc => ∃ (kq : Nat) (x43_5 : Bool), v43 = .bool x43_5 ∧ Aside0 (jacquardlaw01_TagOrders.j0 kq a0 a1 t144 t147 t148 x43_5 = some r) ∧ Aside0 (kq ≤ k) ∧ Drawn0 w wc)
  case first =>
    have H := HC6.out
    clear HC6
    by_cases c7 : (t144 != t146) = true
    · rw [if_pos c7] at H
      have c7b0 : (t144 != t146) = true := c7
      (try (have c7b1 : decide (t144 = t146) = false := by simpa using c7))
      (try (have c7b2 : (t144 == t146) = false := by simpa using c7))
      (try (have c7b3 : ¬ (t144 = t146) := by simpa using c7))
      clear c7
      (first | rw [c7b0] | (simp only [i64_w, i32_w]; rw [c7b0]) | skip)
      have H' := Aside0.mk H
      clear H
      go_wp2
      go_meet
      case rel => exact ⟨_, (true), (by first | rfl | (simp; done) | (simp [*]; done)), H', ⟨by first | omega | exact Nat.le_refl _⟩, by repeat (first | exact Drawn0.refl _ | apply Drawn0.step)⟩
    · rw [if_neg c7] at H
      have c7b0 : (t144 != t146) = false := by simpa using c7
      (try (have c7b1 : decide (t144 = t146) = true := by simpa using c7))
      (try (have c7b2 : (t144 == t146) = true := by simpa using c7))
      clear c7
      (first | rw [c7b0] | (simp only [i64_w, i32_w]; rw [c7b0]) | skip)
      replace H := Option.bind_eq_some_iff.mp H
      obtain ⟨t150, A80, H⟩ := H
      replace H : (if t150 = t147 then ((jacquardlaw01_num.f t149).bind fun t151 => (jacquardlaw01_TagOrders.j0 k a0 a1 t144 t147 t148 (t151 != t147))) else (jacquardlaw01_TagOrders.j0 k a0 a1 t144 t147 t148 true)) = some r := H
      have A8 := Aside0.mk A80
      clear A80
      by_cases c9 : t150 = t147
      · rw [if_pos c9] at H
        have c9b0 : (t150 == t147) = true := beq_iff_eq.mpr c9
        have c9b1 : (t150 != t147) = false := bne_eq_false_iff_eq.mpr c9
        clear c9
        replace H := Option.bind_eq_some_iff.mp H
        obtain ⟨t151, A100, H⟩ := H
        replace H : (jacquardlaw01_TagOrders.j0 k a0 a1 t144 t147 t148 (t151 != t147)) = some r := H
        have A10 := Aside0.mk A100
        clear A100
        have H' := Aside0.mk H
        clear H
        go_wp2_with (first | (go_at_call 17; (with_reducible refine (jacquardlaw01_num.calls t145 t150 _ A8.out).mono ?_); rintro e w' ⟨rfl, ⟨nd, rfl⟩⟩) | (go_at_call 17; (with_reducible refine (jacquardlaw01_num.calls t149 t151 _ A10.out).mono ?_); rintro e w' ⟨rfl, ⟨nd, rfl⟩⟩))
        go_meet
        case rel => exact ⟨_, ((t151 != t147)), (by first | rfl | (simp; done) | (simp [*]; done)), H', ⟨by first | omega | exact Nat.le_refl _⟩, by repeat (first | exact Drawn0.refl _ | apply Drawn0.step)⟩
      · rw [if_neg c9] at H
        have c9b0 : (t150 == t147) = false := beq_eq_false_iff_ne.mpr c9
        have c9b1 : (t150 != t147) = true := bne_iff_ne.mpr c9
        have H' := Aside0.mk H
        clear H
        go_wp2_with (first | (go_at_call 17; (with_reducible refine (jacquardlaw01_num.calls t145 t150 _ A8.out).mono ?_); rintro e w' ⟨rfl, ⟨nd, rfl⟩⟩))
        go_meet
        case rel => exact ⟨_, (true), (by first | rfl | (simp; done) | (simp [*]; done)), H', ⟨by first | omega | exact Nat.le_refl _⟩, by repeat (first | exact Drawn0.refl _ | apply Drawn0.step)⟩
  case rest =>
    clear HC6
    try clear p2
    try clear c3
    try clear c7
    try clear c7b0
    try clear c7b1
    try clear c7b2
    try clear c9
    try clear c9b0
    try clear c9b1
    obtain ⟨kq, x43_5, rfl, HA, HJ5, ⟨mc5, rfl⟩⟩ := hcut
    cases kq with
    | zero => exact absurd HA.out (by simp [jacquardlaw01_TagOrders.j0])
    | succ kj5 =>
      have H := HA.out
      clear HA
      simp only [jacquardlaw01_TagOrders.j0] at H
      by_cases c11 : x43_5 = true
      · subst c11
        have H1 : (some false) = some r := by rw [if_pos rfl] at H; exact H
        clear H
        have H := H1
        clear H1
        obtain rfl := Option.some.inj H
        go_wp2
        go_ret
        exact ⟨by first | rfl | (simp; done) | (simp [*]; done), by repeat (first | exact Drawn0.refl _ | apply Drawn0.step)⟩
      · replace c11 := Bool.eq_false_iff.mpr c11
        subst c11
        have H1 : (if t147 = 0 then (if t144 = true then (if t148 = true then (some false) else (if (true == (a0 != a1)) = true then ((jacquardlaw01_live.f kj5).bind fun t152 => (some t152)) else (some false))) else (if (t148 == (a0 != a1)) = true then ((jacquardlaw01_live.f kj5).bind fun t153 => (some t153)) else (some false))) else (if t148 = true then (some false) else ((jacquardlaw01_live.f kj5).bind fun t154 => (some t154)))) = some r := by rw [if_neg (show ¬ (false = true) by decide)] at H; exact H
        clear H
        have H := H1
        clear H1
        by_cases c12 : t147 = 0
        · rw [if_pos c12] at H
          have c12b0 : (t147 == 0) = true := beq_iff_eq.mpr c12
          have c12b1 : (t147 != 0) = false := bne_eq_false_iff_eq.mpr c12
          clear c12
          by_cases c13 : t144 = true
          · subst c13
            have H1 : (if t148 = true then (some false) else (if (true == (a0 != a1)) = true then ((jacquardlaw01_live.f kj5).bind fun t152 => (some t152)) else (some false))) = some r := by rw [if_pos rfl] at H; exact H
            clear H
            have H := H1
            clear H1
            by_cases c14 : t148 = true
            · subst c14
              have H1 : (some false) = some r := by rw [if_pos rfl] at H; exact H
              clear H
              have H := H1
              clear H1
              obtain rfl := Option.some.inj H
              go_wp2
              go_ret
              exact ⟨by first | rfl | (simp; done) | (simp [*]; done), by repeat (first | exact Drawn0.refl _ | apply Drawn0.step)⟩
            · replace c14 := Bool.eq_false_iff.mpr c14
              subst c14
              have H1 : (if (true == (a0 != a1)) = true then ((jacquardlaw01_live.f kj5).bind fun t152 => (some t152)) else (some false)) = some r := by rw [if_neg (show ¬ (false = true) by decide)] at H; exact H
              clear H
              have H := H1
              clear H1
              by_cases c15 : (true == (a0 != a1)) = true
              · rw [if_pos c15] at H
                have c15b0 : (true == (a0 != a1)) = true := c15
                (try (have c15b1 : decide (true = (a0 != a1)) = true := by simpa using c15))
                (try (have c15b2 : (true == (a0 != a1)) = true := by simpa using c15))
                clear c15
                replace H := Option.bind_eq_some_iff.mp H
                obtain ⟨t152, A160, H⟩ := H
                replace H : (some t152) = some r := H
                have A16 := Aside0.mk A160
                clear A160
                obtain rfl := Option.some.inj H
                go_wp2_with (first | (go_at_call 18; (with_reducible refine (jacquardlaw01_live.calls kj5  t152 _ A16.out).mono ?_); rintro e w' ⟨rfl, ⟨nd, rfl⟩⟩))
                go_ret
                exact ⟨by first | rfl | (simp; done) | (simp [*]; done), by repeat (first | exact Drawn0.refl _ | apply Drawn0.step)⟩
              · rw [if_neg c15] at H
                have c15b0 : (true == (a0 != a1)) = false := by simpa using c15
                (try (have c15b1 : decide (true = (a0 != a1)) = false := by simpa using c15))
                (try (have c15b2 : (true == (a0 != a1)) = false := by simpa using c15))
                (try (have c15b3 : ¬ (true = (a0 != a1)) := by simpa using c15))
                clear c15
                obtain rfl := Option.some.inj H
                go_wp2
                go_ret
                exact ⟨by first | rfl | (simp; done) | (simp [*]; done), by repeat (first | exact Drawn0.refl _ | apply Drawn0.step)⟩
          · replace c13 := Bool.eq_false_iff.mpr c13
            subst c13
            have H1 : (if (t148 == (a0 != a1)) = true then ((jacquardlaw01_live.f kj5).bind fun t153 => (some t153)) else (some false)) = some r := by rw [if_neg (show ¬ (false = true) by decide)] at H; exact H
            clear H
            have H := H1
            clear H1
            by_cases c17 : (t148 == (a0 != a1)) = true
            · rw [if_pos c17] at H
              have c17b0 : (t148 == (a0 != a1)) = true := c17
              (try (have c17b1 : decide (t148 = (a0 != a1)) = true := by simpa using c17))
              (try (have c17b2 : (t148 == (a0 != a1)) = true := by simpa using c17))
              clear c17
              replace H := Option.bind_eq_some_iff.mp H
              obtain ⟨t153, A180, H⟩ := H
              replace H : (some t153) = some r := H
              have A18 := Aside0.mk A180
              clear A180
              obtain rfl := Option.some.inj H
              go_wp2_with (first | (go_at_call 18; (with_reducible refine (jacquardlaw01_live.calls kj5  t153 _ A18.out).mono ?_); rintro e w' ⟨rfl, ⟨nd, rfl⟩⟩))
              go_ret
              exact ⟨by first | rfl | (simp; done) | (simp [*]; done), by repeat (first | exact Drawn0.refl _ | apply Drawn0.step)⟩
            · rw [if_neg c17] at H
              have c17b0 : (t148 == (a0 != a1)) = false := by simpa using c17
              (try (have c17b1 : decide (t148 = (a0 != a1)) = false := by simpa using c17))
              (try (have c17b2 : (t148 == (a0 != a1)) = false := by simpa using c17))
              (try (have c17b3 : ¬ (t148 = (a0 != a1)) := by simpa using c17))
              clear c17
              obtain rfl := Option.some.inj H
              go_wp2
              go_ret
              exact ⟨by first | rfl | (simp; done) | (simp [*]; done), by repeat (first | exact Drawn0.refl _ | apply Drawn0.step)⟩
        · rw [if_neg c12] at H
          have c12b0 : (t147 == 0) = false := beq_eq_false_iff_ne.mpr c12
          have c12b1 : (t147 != 0) = true := bne_iff_ne.mpr c12
          by_cases c19 : t148 = true
          · subst c19
            have H1 : (some false) = some r := by rw [if_pos rfl] at H; exact H
            clear H
            have H := H1
            clear H1
            obtain rfl := Option.some.inj H
            go_wp2
            go_ret
            exact ⟨by first | rfl | (simp; done) | (simp [*]; done), by repeat (first | exact Drawn0.refl _ | apply Drawn0.step)⟩
          · replace c19 := Bool.eq_false_iff.mpr c19
            subst c19
            have H1 : ((jacquardlaw01_live.f kj5).bind fun t154 => (some t154)) = some r := by rw [if_neg (show ¬ (false = true) by decide)] at H; exact H
            clear H
            have H := H1
            clear H1
            replace H := Option.bind_eq_some_iff.mp H
            obtain ⟨t154, A200, H⟩ := H
            replace H : (some t154) = some r := H
            have A20 := Aside0.mk A200
            clear A200
            obtain rfl := Option.some.inj H
            go_wp2_with (first | (go_at_call 18; (with_reducible refine (jacquardlaw01_live.calls kj5  t154 _ A20.out).mono ?_); rintro e w' ⟨rfl, ⟨nd, rfl⟩⟩))
            go_ret
            exact ⟨by first | rfl | (simp; done) | (simp [*]; done), by repeat (first | exact Drawn0.refl _ | apply Drawn0.step)⟩

/-- THE ONE PURE STATEMENT of jacquardlaw01_TagOrders: yours. -/
def jacquardlaw01_TagOrders.Pure : Prop := ∀ (a0 : Int) (a1 : Int), (Lit.int .u64 a0).wf = true → (Lit.int .u64 a1).wf = true → ∃ k, jacquardlaw01_TagOrders.f k a0 a1 = some true
theorem jacquardlaw01_TagOrders.walk (P : jacquardlaw01_TagOrders.Pure) (a0 : Int) (a1 : Int) (w : World) (w0 : (Lit.int .u64 a0).wf = true) (w1 : (Lit.int .u64 a1).wf = true) :
    Calls Try.prog 9 #[.int .u64 a0, .int .u64 a1] w fun e w' => e = .returned (.bool true) ∧ Below w.heap.size w w' := by
  obtain ⟨k, h⟩ := P a0 a1 w0 w1
  refine (jacquardlaw01_TagOrders.calls k a0 a1 true w h).mono ?_
  rintro e w' ⟨rfl, hd⟩
  exact ⟨rfl, hd.below⟩

end Go.Proofs.Ytojohijgacnljaa.PTagOrders
