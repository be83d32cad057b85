/- CplxRules: sums and products may be taken in the other order; mirrored twice it is the number; the mirror of a product is the mirrors' product, but for the sign of what is 0; the square of a length is not below 0. The walk, for every bits. -/
import Derived.Test.YthadgapgnlghfaaSames
import Derived.Test.YthadgapgnlghfaaExact
namespace Go.Proofs.Ythadgapgnlghfaa
open Go Go.RowKit Go.Proofs.Ythadgapgnlghfaa.Dbl

theorem fb_add_comm (x y : Nat) : floatBits .add .f64 x y = floatBits .add .f64 y x := add_comm x y
theorem fb_mul_comm (x y : Nat) : floatBits .mul .f64 x y = floatBits .mul .f64 y x := mul_comm x y
theorem FR.swap_add {x y r : Nat} (h : FR .add x y r) : FR .add y x r := by unfold FR at *; rw [fb_add_comm]; exact h
theorem FR.swap_mul {x y r : Nat} (h : FR .mul x y r) : FR .mul y x r := by unfold FR at *; rw [fb_mul_comm]; exact h

theorem mulR_comm {a b c d re im re' im' : Nat} (h : MulR a b c d re im) (h' : MulR c d a b re' im') : AL re re' ∧ AL im im' := by
  obtain ⟨p, q, r, s, h1, h2, h3, h4, h5, h6⟩ := h
  obtain ⟨p', q', r', s', g1, g2, g3, g4, g5, g6⟩ := h'
  have ep := FR.alike (AL.refl _) (AL.refl _) h1 g1.swap_mul
  have eq := FR.alike (AL.refl _) (AL.refl _) h2 g2.swap_mul
  have er := FR.alike (AL.refl _) (AL.refl _) h4 g5.swap_mul
  have es := FR.alike (AL.refl _) (AL.refl _) h5 g4.swap_mul
  exact ⟨FR.alike ep eq h3 g3, FR.alike er es h6 g6.swap_add⟩

theorem read_ng (x : Nat) : D.read (ng x) = (D.read x).opposite := by
  have e : ng x = x ^^^ 2 ^ 63 := rfl
  have hm : ng x % 2 ^ 63 = x % 2 ^ 63 := by rw [e, Nat.xor_mod_two_pow]; simp
  have hd : ng x / 2 ^ 63 = (x / 2 ^ 63) ^^^ 1 := by rw [e, Nat.xor_div_two_pow]
  have hb : (ng x / 2 ^ 63 % 2 == 1) = !(x / 2 ^ 63 % 2 == 1) := by
    rw [hd]
    have : ((x / 2 ^ 63) ^^^ 1) % 2 = (x / 2 ^ 63 % 2) ^^^ 1 := by
      have := Nat.xor_mod_two_pow (a := x / 2 ^ 63) (b := 1) (n := 1)
      simpa using this
    rw [this]
    have h2 : x / 2 ^ 63 % 2 = 0 ∨ x / 2 ^ 63 % 2 = 1 := by omega
    rcases h2 with h | h <;> rw [h] <;> decide
  have hsw : D.signWeight = 2 ^ 63 := by decide
  unfold Ieee.Format.read
  rw [hsw]
  dsimp only
  rw [hb, hm]
  split
  · rfl
  · split
    · rfl
    · split <;> rfl

theorem ng_ng (x : Nat) : ng (ng x) = x := by
  have e : ng (ng x) = (x ^^^ 2 ^ 63) ^^^ 2 ^ 63 := rfl
  rw [e, Nat.xor_assoc, Nat.xor_self, Nat.xor_zero]
theorem isN_ng (x : Nat) : isN (ng x) = isN x := by
  unfold isN; rw [read_ng, opposite_isNaN]
theorem AL.ng {x y : Nat} (h : AL x y) : AL (ng x) (ng y) := by
  rcases h with rfl | ⟨a, b⟩
  · exact AL.refl _
  · exact Or.inr ⟨by rw [isN_ng]; exact a, by rw [isN_ng]; exact b⟩

theorem ng_word (s : Bool) {k : Nat} (hk : k < 2 ^ 63) : ng (D.word s k) = D.word (!s) k := by
  have hsw : D.signWeight = 2 ^ 63 := by decide
  unfold Ieee.Format.word
  rw [hsw]
  cases s
  · exact ng_low hk
  · exact ng_high hk
theorem nearest_ng (s : Bool) (m : Nat) (e : Int) : ng (D.nearest s m e) = D.nearest (!s) m e := by
  have hir : D.infRung < 2 ^ 63 := by decide
  unfold Ieee.Format.nearest
  by_cases hm : m = 0
  · rw [if_pos hm, if_pos hm]; exact ng_word s (Nat.two_pow_pos _)
  · rw [if_neg hm, if_neg hm]
    dsimp only
    have hc : ∀ n d, Ieee.Toward.even.cut s n d = Ieee.Toward.even.cut (!s) n d := fun n d => rfl
    rw [hc]
    exact ng_word s (Nat.lt_of_le_of_lt (Nat.min_le_right ..) hir)
theorem write_ng {d : Ieee.Datum} (h : d.isNaN = false) : ng (D.write d) = D.write d.opposite := by
  cases d with
  | number s m e => exact nearest_ng s m e
  | infinity s => exact ng_word s (by decide)
  | nan s t => cases h

theorem product_opposite (a b : Ieee.Datum) : a.product b.opposite = (a.product b).map Ieee.Datum.opposite := by
  cases a <;> cases b <;> simp only [Ieee.Datum.product, Ieee.Datum.opposite, Option.map_none, Option.map_some]
  · simp
  · split <;> simp [Ieee.Datum.opposite]
  · split <;> simp [Ieee.Datum.opposite]
  · simp
theorem product_not_nan {a b c : Ieee.Datum} (h : a.product b = some c) : c.isNaN = false := by
  cases a <;> cases b <;> simp only [Ieee.Datum.product] at h
  all_goals first
    | (cases h; done)
    | (cases h; rfl)
    | (split at h <;> cases h; rfl)

theorem mul_ng_right (x y : Nat) : floatBits .mul .f64 x (ng y) = (floatBits .mul .f64 x y).map ng := by
  show D.mul x (ng y) = (D.mul x y).map ng
  unfold Ieee.Format.mul
  rw [read_ng, product_opposite]
  cases h : (D.read x).product (D.read y) with
  | none => rfl
  | some d => simp only [Option.map_some]; rw [write_ng (product_not_nan h)]
theorem FR.ng_right {x y r : Nat} (h : FR .mul x y r) : FR .mul x (ng y) (ng r) := by
  unfold FR at *
  rw [mul_ng_right]
  cases e : floatBits .mul .f64 x y with
  | some v => rw [e] at h; simp only [Option.map_some]; rw [show r = v from h]
  | none => rw [e] at h; simp only [Option.map_none]; rw [isN_ng]; exact h
theorem FR.ng_left {x y r : Nat} (h : FR .mul x y r) : FR .mul (ng x) y (ng r) := h.swap_mul.ng_right.swap_mul

/-- a nought. -/
def Zr (x : Nat) : Prop := x = 0 ∨ x = 9223372036854775808
theorem ng_Zr {x : Nat} (h : Zr x) : Zr (ng x) := by
  rcases h with rfl | rfl
  · exact Or.inr (ng_low (r := 0) (by omega))
  · exact Or.inl (ng_high (r := 0) (by omega))
theorem cn_Zr {x : Nat} (h : Zr x) : cn x = 0 ∨ cn x = 9223372036854775808 := by
  rcases h with rfl | rfl
  · exact Or.inl (by decide)
  · exact Or.inr (by decide)
theorem word_Zr (s : Bool) (e : Int) : Zr (D.nearest s 0 e) := by
  unfold Ieee.Format.nearest
  rw [if_pos rfl]
  cases s
  · exact Or.inl rfl
  · exact Or.inr (by decide)

theorem sum_opposite (a b : Ieee.Datum) : (a.opposite.sum b.opposite = (a.sum b).map Ieee.Datum.opposite ∧ ∀ c, a.sum b = some c → c.isNaN = false) ∨
    ∃ s t e f, a.sum b = some (.number s 0 e) ∧ a.opposite.sum b.opposite = some (.number t 0 f) := by
  cases a with
  | nan s t => left; cases b <;> exact ⟨rfl, fun c h => by cases h⟩
  | infinity s =>
    left
    cases b with
    | nan s t => exact ⟨rfl, fun c h => by cases h⟩
    | number t n j => exact ⟨rfl, fun c h => by cases h; rfl⟩
    | infinity t =>
      simp only [Ieee.Datum.opposite, Ieee.Datum.sum]
      by_cases h : s = t
      · subst h; rw [if_pos rfl, if_pos rfl]; exact ⟨rfl, fun c h => by cases h; rfl⟩
      · rw [if_neg h, if_neg (fun e => h (by simpa using e))]; exact ⟨rfl, fun c h => by cases h⟩
  | number s m i =>
    cases b with
    | nan s t => left; exact ⟨rfl, fun c h => by cases h⟩
    | infinity t => left; exact ⟨rfl, fun c h => by cases h; rfl⟩
    | number t n j =>
      simp only [Ieee.Datum.opposite, Ieee.Datum.sum]
      have hneg : ∀ (u : Bool) (k l : Nat), Ieee.signed (!u) k l = -Ieee.signed u k l := by
        intro u k l; rw [signed_eq, signed_eq]; cases u <;> simp
      rw [hneg, hneg]
      generalize hT : Ieee.signed s m (i - min i j).toNat + Ieee.signed t n (j - min i j).toNat = T
      have hT' : -Ieee.signed s m (i - min i j).toNat + -Ieee.signed t n (j - min i j).toNat = -T := by omega
      rw [hT']
      by_cases h0 : T = 0
      · right
        subst h0
        exact ⟨_, _, _, _, rfl, rfl⟩
      · left
        refine ⟨?_, fun c h => by cases h; rfl⟩
        have h0' : ¬ -T = 0 := by omega
        simp only [Option.map_some, Ieee.Datum.opposite, if_neg h0, if_neg h0', Int.natAbs_neg]
        congr 2
        by_cases hl : T < 0
        · simp [hl]; omega
        · simp [hl]; omega

theorem add_ng {x y r r' : Nat} (h : FR .add x y r) (h' : FR .add (ng x) (ng y) r') : AL (ng r) r' ∨ (Zr (ng r) ∧ Zr r') := by
  have e1 : floatBits .add .f64 x y = ((D.read x).sum (D.read y)).map D.write := rfl
  have e2 : floatBits .add .f64 (ng x) (ng y) = ((D.read x).opposite.sum (D.read y).opposite).map D.write := by
    rw [← read_ng, ← read_ng]; rfl
  unfold FR at h h'
  rw [e1] at h
  rw [e2] at h'
  rcases sum_opposite (D.read x) (D.read y) with ⟨ho, hn⟩ | ⟨s, t, e, f, ha, hb⟩
  · left
    rw [ho] at h'
    cases hs : (D.read x).sum (D.read y) with
    | none =>
      rw [hs] at h h'
      exact Or.inr ⟨by rw [isN_ng]; exact h, h'⟩
    | some d =>
      rw [hs] at h h'
      simp only [Option.map_some] at h h'
      left
      rw [h, h', write_ng (hn d hs)]
  · right
    rw [ha] at h
    rw [hb] at h'
    simp only [Option.map_some] at h h'
    rw [h, h']
    exact ⟨ng_Zr (word_Zr s e), word_Zr t f⟩

theorem conj_mul {a b c d re im re' im' : Nat} (h : MulR a b c d re im) (h' : MulR a (ng b) c (ng d) re' im') : AL re re' ∧ (AL (ng im) im' ∨ (Zr (ng im) ∧ Zr im')) := by
  obtain ⟨p, q, r, s, h1, h2, h3, h4, h5, h6⟩ := h
  obtain ⟨p', q', r', s', g1, g2, g3, g4, g5, g6⟩ := h'
  have ep := FR.alike (AL.refl _) (AL.refl _) h1 g1
  have eq : AL q q' := by
    have := h2.ng_right.ng_left
    rw [ng_ng] at this
    exact FR.alike (AL.refl _) (AL.refl _) this g2
  refine ⟨FR.alike ep eq h3 g3, ?_⟩
  have er : AL (ng r) r' := FR.alike (AL.refl _) (AL.refl _) h4.ng_right g4
  have es : AL (ng s) s' := FR.alike (AL.refl _) (AL.refl _) h5.ng_left g5
  -- the sum of the mirrored parts, whichever NaN they are
  obtain ⟨z, hz⟩ : ∃ z, FR .add (ng r) (ng s) z := ⟨_, fval_FR .add (ng r) (ng s) { heap := #[], os := default, tape := fun _ _ => 0, drawn := 0, output := #[] }⟩
  have e1 := FR.alike er es hz g6
  rcases add_ng h6 hz with a | ⟨a, b⟩
  · exact Or.inl (a.trans e1)
  · rcases e1 with rfl | ⟨e, _⟩
    · exact Or.inr ⟨a, b⟩
    · exfalso
      rcases b with rfl | rfl <;> exact absurd e (by decide)

theorem norm_not_lt {a b r : Nat} (h : NormR a b r) : (FloatKind.f64.format.order r 0 == some .lt) = false := by
  obtain ⟨p, q, h1, h2, h3⟩ := h
  rw [beq_eq_false_iff_ne]
  by_cases hn : isN r = true
  · have : FloatKind.f64.format.order r 0 = none := order_nan_left hn _
    rw [this]; simp
  · unfold FR at h3
    cases e3 : floatBits .add .f64 p q with
    | none => rw [e3] at h3; exact absurd h3 hn
    | some v =>
      rw [e3] at h3
      simp only at h3
      subst h3
      have np : isN p = false := by
        cases e : isN p with
        | false => rfl
        | true => rw [fb_nan (Or.inl e)] at e3; cases e3
      have nq : isN q = false := by
        cases e : isN q with
        | false => rfl
        | true => rw [fb_nan (Or.inr e)] at e3; cases e3
      have sp : noSign p := by
        unfold FR at h1
        cases e : floatBits .mul .f64 a a with
        | none => rw [e] at h1; rw [np] at h1; cases h1
        | some v => rw [e] at h1; simp only at h1; subst h1; exact square_noSign a p e
      have sq : noSign q := by
        unfold FR at h2
        cases e : floatBits .mul .f64 b b with
        | none => rw [e] at h2; rw [nq] at h2; cases h2
        | some v => rw [e] at h2; simp only at h2; subst h2; exact square_noSign b q e
      exact noSign_not_lt (sum_noSign sp sq e3)

theorem same_al (a b c d : Nat) (w : World) (h : AL a c) (h' : AL b d) : Calls Try.prog 20 #[.complex .f64 a b, .complex .f64 c d] w fun e w' => e = .returned (.bool true) ∧ w = w' := by
  have := same_c a b c d w
  have e : sameB a b c d = true := by unfold sameB; rw [h.cn, h'.cn]; simp
  rw [e] at this
  exact this
theorem same_add {a b c d r s r' s' : Nat} (h : FR .add a c r ∧ FR .add b d s) (h' : FR .add c a r' ∧ FR .add d b s') (w : World) : Calls Try.prog 20 #[.complex .f64 r s, .complex .f64 r' s'] w fun e w' => e = .returned (.bool true) ∧ w = w' :=
  same_al _ _ _ _ w (FR.alike (AL.refl _) (AL.refl _) h.1 h'.1.swap_add) (FR.alike (AL.refl _) (AL.refl _) h.2 h'.2.swap_add)
theorem same_mul {a b c d r s r' s' : Nat} (h : MulR a b c d r s) (h' : MulR c d a b r' s') (w : World) : Calls Try.prog 20 #[.complex .f64 r s, .complex .f64 r' s'] w fun e w' => e = .returned (.bool true) ∧ w = w' :=
  same_al _ _ _ _ w (mulR_comm h h').1 (mulR_comm h h').2
theorem same_conj (a b : Nat) (w : World) : Calls Try.prog 20 #[.complex .f64 a (ng (ng b)), .complex .f64 a b] w fun e w' => e = .returned (.bool true) ∧ w = w' := by
  rw [ng_ng]
  exact same_al a b a b w (AL.refl _) (AL.refl _)

set_option maxRecDepth 100000 in
set_option maxHeartbeats 2000000 in
theorem rules_walk (a b c d : Int) (w : World) : Calls Try.prog 10 #[zu a b, zu c d] w fun e w' => e = .returned (.bool true) ∧ Below w.heap.size w w' := by
  have hs0 := S4.start w (.int .u64 a) (.int .u64 b) (.int .u64 c) (.int .u64 d) 36 36
  have HS := Lib.hid hs0
  clear hs0
  go_enter Try.func10, Try.ntmps10
  go_wp2_with fail
  go_region_held3 (fun w' => w'.cell? ⟨w.heap.size, 0, none⟩ = some (.int .u64 a) ∧ w'.cell? ⟨w.heap.size, 1, none⟩ = some (.int .u64 b) ∧ w'.cell? ⟨w.heap.size + 1, 0, none⟩ = some (.int .u64 c) ∧ w'.cell? ⟨w.heap.size + 1, 1, none⟩ = some (.int .u64 d) ∧ w.heap.size + 1 < w'.heap.size ∧ Below w.heap.size w w')
    (first | exact S4.drewN HS.out 1 | exact S4.keep (by assumption) (by assumption))
    (first | (go_at_call 22; refine (lof_c _ _ _).mono ?_; rintro e w1 ⟨rfl, hb⟩))
  have hS : S4 w (.int .u64 a) (.int .u64 b) (.int .u64 c) (.int .u64 d) w1 := by assumption
  have HB := Lib.hid hS.2.2.2.2.2
  clear hS
  generalize cn a.toNat = a at *
  generalize cn b.toNat = b at *
  generalize cn c.toNat = c at *
  generalize cn d.toNat = d at *
  go_upto_region 7 with (first
    | (go_at_call 14; refine (add_c _ _ _ _ _).mono ?_; rintro e w' ⟨x, y, hv, rfl, k, rfl⟩)
    | (go_at_call 16; refine (mul_c _ _ _ _ _).mono ?_; rintro e w' ⟨x, y, hv, rfl, k, rfl⟩)
    | (go_at_call 17; refine (conj_c _ _ _).mono ?_; rintro e w' ⟨rfl, rfl⟩)
    | (go_at_call 35; refine (norm_c _ _ _).mono ?_; rintro e w' ⟨N, hN, rfl, k, rfl⟩; have hlt := norm_not_lt hN)
    | (go_at_call 37; refine (cbits_c _ _ _).mono ?_; rintro e w' ⟨rfl, rfl⟩)
    | (go_at_call 20; (first | (with_reducible refine (same_add ‹FR .add a c _ ∧ FR .add b d _› ‹FR .add c a _ ∧ FR .add d b _› _).mono ?_) | (with_reducible refine (same_mul ‹MulR a b c d _ _› ‹MulR c d a b _ _› _).mono ?_) | (with_reducible refine (same_conj a b _).mono ?_)); rintro e w' ⟨rfl, rfl⟩))
  obtain ⟨e1, e2⟩ := conj_mul ‹MulR a b c d _ _› ‹MulR a (ng b) c (ng d) _ _›
  have f1 := e1.cn
  rcases e2 with e2 | ⟨z1, z2⟩
  · have f2 := e2.cn
    clear e1 e2 hv
    go_wp2_with (go_at_call 11; refine (live_c _).mono ?_; rintro e w2 ⟨rfl, hl⟩)
    go_ret
    exact ⟨rfl, Below.step (below_drewN HB.out _) hl⟩
  · have f2 := cn_Zr z1
    have f3 := cn_Zr z2
    clear e1 z1 z2 hv
    rcases f2 with f2 | f2 <;> rcases f3 with f3 | f3
    all_goals
      go_wp2_with (go_at_call 11; refine (live_c _).mono ?_; rintro e w2 ⟨rfl, hl⟩)
      go_ret
      exact ⟨rfl, Below.step (below_drewN HB.out _) hl⟩
end Go.Proofs.Ythadgapgnlghfaa
