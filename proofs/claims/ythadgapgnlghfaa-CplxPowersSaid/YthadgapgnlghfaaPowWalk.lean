/- CplxPowers: powers of any number, and any polynomial's value, are the document's. The walk, for every bits and every list. -/
import Derived.Test.YthadgapgnlghfaaPowers
namespace Go.Proofs.Ythadgapgnlghfaa
open Go Go.RowKit Go.Proofs.Ythadgapgnlghfaa.Dbl

theorem info23 : (Try.prog.info? 23).map (fun i => (i.zero, i.size, i.bytes)) = some (some (.complex .f64 0 0), 1, 16) := by kernel_rfl
theorem info42 : (Try.prog.info? 42).map (fun i => (i.zero, i.size, i.bytes)) = some (some (.agg #[.float .f64 0, .float .f64 0]), 2, 16) := by kernel_rfl

/-- what a power and its error may be. -/
def PWR (a b : Nat) (n : Int) (re im : Nat) (e : Int) : Prop := (0 ≤ n ∧ n ≤ 64 ∧ e = 0 ∧ PowR a b n.toNat re im) ∨ ((n < 0 ∨ 64 < n) ∧ e = 1 ∧ re = 0 ∧ im = 0)
theorem power_any (a b : Nat) (n : Int) (w : World) : Calls Try.prog 27 #[.complex .f64 a b, .int .i64 n] w (RetCE (PWR a b n) w) := by
  by_cases h : n < 0 ∨ 64 < n
  · exact (power_out a b n w h).mono fun _ _ ⟨he, hw⟩ => ⟨0, 0, 1, Or.inr ⟨h, rfl, rfl, rfl⟩, he, 0, hw.symm⟩
  · obtain ⟨N, rfl⟩ : ∃ N : Nat, n = N := ⟨n.toNat, by omega⟩
    exact (power_in a b N w (by omega)).mono fun _ _ ⟨p, q, k, ⟨hk, hp⟩, he, hw⟩ => ⟨p, q, k, Or.inl ⟨by omega, by omega, hk, hp⟩, he, hw⟩
theorem rpower_any (a b : Nat) (n : Int) (w : World) : Calls Try.prog 28 #[zv a b, .int .i64 n] w (RetZE (PWR a b n) w) := by
  by_cases h : n < 0 ∨ 64 < n
  · exact (rpower_out a b n w h).mono fun _ _ ⟨he, hw⟩ => ⟨0, 0, 1, Or.inr ⟨h, rfl, rfl, rfl⟩, he, hw⟩
  · obtain ⟨N, rfl⟩ : ∃ N : Nat, n = N := ⟨n.toNat, by omega⟩
    exact (rpower_in a b N w (by omega)).mono fun _ _ ⟨p, q, k, ⟨hk, hp⟩, he, hw⟩ => ⟨p, q, k, Or.inl ⟨by omega, by omega, hk, hp⟩, he, hw⟩
theorem PWR.alike {a b a' b' re im re' im' : Nat} {n e e' : Int} (ha : AL a a') (hb : AL b b') (h : PWR a b n re im e) (h' : PWR a' b' n re' im' e') : AL re re' ∧ AL im im' ∧ e = e' := by
  rcases h with ⟨h1, h2, rfl, h3⟩ | ⟨h1, rfl, rfl, rfl⟩
  · rcases h' with ⟨_, _, rfl, g3⟩ | ⟨g1, _⟩
    · exact ⟨(PowR.alike ha hb _ _ _ _ _ h3 g3).1, (PowR.alike ha hb _ _ _ _ _ h3 g3).2, rfl⟩
    · omega
  · rcases h' with ⟨g1, g2, _⟩ | ⟨_, rfl, rfl, rfl⟩
    · omega
    · exact ⟨AL.refl _, AL.refl _, rfl⟩

theorem powers_long (a b n : Int) (p : Option Addr) (len cap : Nat) (w : World) (h : 100 < len) : Calls Try.prog 6 #[zu a b, .int .i64 n, .slice p len cap] w fun e w' => e = .returned (.bool true) ∧ Below w.heap.size w w' := by
  have h' : (100 : Int) < (len : Int) := by omega
  go_enter Try.func6, Try.ntmps6
  go_wp2_with (go_at_call 11; refine (live_c _).mono ?_; rintro e w2 ⟨rfl, hl⟩)
  go_ret
  exact ⟨rfl, Below.step ((Below.refl _ _).alloc (Nat.le_refl _) _) hl⟩

theorem fold_al {A B x y x' y' k : Nat} {us vs : Nat → Int} (h : FoldR (cn A) (cn B) (LX us vs k) x y) (h' : FoldR A B (LY us vs k) x' y') : AL x x' ∧ AL y y' :=
  FoldR.alike (al_cn A) (al_cn B) us vs (List.range k) _ _ _ _ h h'

/-- the base's bits lie in the first new block. -/
abbrev ZB (w : World) (a b : Int) (w' : World) : Prop :=
  w'.cell? ⟨w.heap.size, 0, none⟩ = some (.int .u64 a) ∧ w'.cell? ⟨w.heap.size, 1, none⟩ = some (.int .u64 b) ∧ w.heap.size < w'.heap.size ∧ Below w.heap.size w w'
theorem ZB.keep {w wc w1 : World} {a b : Int} (h : ZB w a b wc) (hb : Below wc.heap.size wc w1) : ZB w a b w1 := by
  obtain ⟨h0, h1, h2, h3⟩ := h
  obtain ⟨hc, _⟩ := bcell hb
  exact ⟨by rw [hc _ _ h2]; exact h0, by rw [hc _ _ h2]; exact h1, Nat.lt_of_lt_of_le h2 hb.size, h3.trans (hb.mono h3.size)⟩
theorem ZB.drewN {w wc : World} {a b : Int} (h : ZB w a b wc) (n : Nat) : ZB w a b (wc.drewN n) := h.keep (below_drewN (Below.refl _ _) n)
theorem ZB.start (w : World) (a b : Int) (t : TypeId) : ZB w a b (w.alloc (.cells #[.int .u64 a, .int .u64 b] t)) :=
  ⟨by simp [go_sem], by simp [go_sem], by simp, (Below.refl _ _).alloc (Nat.le_refl _) _⟩

/-- the base's bits, the document's power, and both lists lie in memory. -/
abbrev SP (w w0 : World) (a b : Int) (P p q : Nat) (us vs : Nat → Int) (k : Nat) (xv yv : Value) (w' : World) : Prop :=
  w'.cell? ⟨w.heap.size, 0, none⟩ = some (.int .u64 a) ∧ w'.cell? ⟨w.heap.size, 1, none⟩ = some (.int .u64 b) ∧ w'.cell? ⟨P, 0, none⟩ = some (.float .f64 p) ∧ w'.cell? ⟨P, 1, none⟩ = some (.float .f64 q) ∧ PL w0 us vs k xv yv w'
theorem SP.keep {w w0 : World} {a b : Int} {P p q : Nat} {us vs : Nat → Int} {k : Nat} {xv yv : Value} {wc w1 : World} (hz : w.heap.size < w0.heap.size) (hp : P < w0.heap.size) (h : SP w w0 a b P p q us vs k xv yv wc) (hb : Below wc.heap.size wc w1) : SP w w0 a b P p q us vs k xv yv w1 := by
  obtain ⟨h0, h1, h2, h3, h4⟩ := h
  obtain ⟨hc, _⟩ := bcell hb
  have hs := h4.bel.size
  exact ⟨by rw [hc _ _ (by omega)]; exact h0, by rw [hc _ _ (by omega)]; exact h1, by rw [hc _ _ (by omega)]; exact h2, by rw [hc _ _ (by omega)]; exact h3, h4.below hb⟩
theorem SP.drewN {w w0 : World} {a b : Int} {P p q : Nat} {us vs : Nat → Int} {k : Nat} {xv yv : Value} {wc : World} (hz : w.heap.size < w0.heap.size) (hp : P < w0.heap.size) (h : SP w w0 a b P p q us vs k xv yv wc) (n : Nat) : SP w w0 a b P p q us vs k xv yv (wc.drewN n) :=
  SP.keep hz hp h (below_drewN (Below.refl _ _) n)
theorem SP.drew {w w0 : World} {a b : Int} {P p q : Nat} {us vs : Nat → Int} {k : Nat} {xv yv : Value} {wc : World} (hz : w.heap.size < w0.heap.size) (hp : P < w0.heap.size) (h : SP w w0 a b P p q us vs k xv yv wc) : SP w w0 a b P p q us vs k xv yv wc.drew := SP.drewN hz hp h 1
theorem SP.mk {w w0 : World} {a b : Int} {P p q : Nat} {us vs : Nat → Int} {k : Nat} {xv yv : Value} {wc : World} (hz : ZB w a b w0) (h0 : w0.cell? ⟨P, 0, none⟩ = some (.float .f64 p)) (h1 : w0.cell? ⟨P, 1, none⟩ = some (.float .f64 q)) (hp : P < w0.heap.size) (h : PL w0 us vs k xv yv wc) : SP w w0 a b P p q us vs k xv yv wc :=
  ⟨(h.bel.cell (p := ⟨_, _, none⟩) hz.2.2.1).trans hz.1, (h.bel.cell (p := ⟨_, _, none⟩) hz.2.2.1).trans hz.2.1, (h.bel.cell (p := ⟨_, _, none⟩) hp).trans h0, (h.bel.cell (p := ⟨_, _, none⟩) hp).trans h1, h⟩
theorem SP.px {w w0 : World} {a b : Int} {P p q : Nat} {us vs : Nat → Int} {k : Nat} {xv yv : Value} {wc : World} (h : SP w w0 a b P p q us vs k xv yv wc) : wc.ownsRow w0.heap.size 23 1 xv k (XS us vs k) := h.2.2.2.2.hx
theorem SP.py {w w0 : World} {a b : Int} {P p q : Nat} {us vs : Nat → Int} {k : Nat} {xv yv : Value} {wc : World} (h : SP w w0 a b P p q us vs k xv yv wc) : wc.ownsRow w0.heap.size 42 2 yv k (YS us vs k) := h.2.2.2.2.hy

set_option maxRecDepth 100000 in
set_option maxHeartbeats 8000000 in
theorem powers_short (a b n : Int) (ap : Option Addr) (len cap : Nat) (us vs : Nat → Int) (w : World) (h : len ≤ 100)
    (hap : ∀ k, k < len → ∃ lb off, ap = some ⟨lb, off, none⟩ ∧ w.cell? ⟨lb, off + k * 2, none⟩ = some (.int .u64 (us k)) ∧ w.cell? ⟨lb, off + k * 2 + 1, none⟩ = some (.int .u64 (vs k))) :
    Calls Try.prog 6 #[zu a b, .int .i64 n, .slice ap len cap] w fun e w' => e = .returned (.bool true) ∧ Below w.heap.size w w' := by
  have HAP := Lib.hid hap
  clear hap
  have HZ := Lib.hid (ZB.start w a b 36)
  obtain ⟨i23, hi23, hz0, hz1, hz2⟩ := info_parts info23
  obtain ⟨i42, hi42, hy0, hy1, hy2⟩ := info_parts info42
  have HI := Lib.hid hi23
  have HI0 := Lib.hid hz0
  have HI1 := Lib.hid hz1
  have HI2 := Lib.hid hz2
  have HJ := Lib.hid hi42
  have HJ0 := Lib.hid hy0
  have HJ1 := Lib.hid hy1
  have HJ2 := Lib.hid hy2
  clear hi23 hz0 hz1 hz2 hi42 hy0 hy1 hy2
  go_enter Try.func6, Try.ntmps6
  go_wp2_with (first
    | (go_at_call 22; refine (lof_c _ _ _).mono ?_; rintro e w1 ⟨rfl, hb⟩; have hZ1 := ZB.keep HZ.out hb; obtain ⟨z0, z1, s0, _⟩ := id hZ1; clear HZ; have HZ := Lib.hid hZ1; clear hZ1)
    | (go_at_call 27; refine (power_any _ _ _ _).mono ?_; rintro e w' ⟨pre, pim, pe1, hpw, rfl, kd, rfl⟩; have hZ1 := ZB.drewN HZ.out kd; clear HZ; have HZ := Lib.hid hZ1; clear hZ1)
    | (go_at_call 24; refine (lis_c _ _ _).mono ?_; rintro e w2 ⟨rfl, hb⟩; have hZ1 := ZB.keep HZ.out hb; clear HZ; have HZ := Lib.hid hZ1; clear hZ1)
    | (go_at_call 28; refine (rpower_any _ _ _ _).mono ?_; rintro e w3 ⟨qre, qim, qe, hqw, rfl, hb⟩; have hZ1 := ZB.keep HZ.out hb; clear HZ; have HZ := Lib.hid hZ1; clear hZ1))
  have hz0 : ZB w a b (w3.alloc (.cells #[.float .f64 qre, .float .f64 qim] 42)) := ZB.keep HZ.out ((Below.refl _ _).alloc (Nat.le_refl _) _)
  have hp0 : (w3.alloc (.cells #[.float .f64 qre, .float .f64 qim] 42)).cell? ⟨w3.heap.size, 0, none⟩ = some (.float .f64 qre) := by simp [go_sem]
  have hp1 : (w3.alloc (.cells #[.float .f64 qre, .float .f64 qim] 42)).cell? ⟨w3.heap.size, 1, none⟩ = some (.float .f64 qim) := by simp [go_sem]
  have hps : w3.heap.size < (w3.alloc (.cells #[.float .f64 qre, .float .f64 qim] 42)).heap.size := by simp
  clear HZ hb
  generalize w3.alloc (.cells #[.float .f64 qre, .float .f64 qim] 42) = w0 at *
  generalize w3.heap.size = P at *
  have HZ := Lib.hid hz0
  have HP0 := Lib.hid hp0
  have HP1 := Lib.hid hp1
  have HPS := Lib.hid hps
  clear hz0 hp0 hp1 hps
  go_loopw [11, 12, 13] (fun xv yv i wr => ∃ k, k ≤ len ∧ i = .int .i64 (k : Nat) ∧ PL w0 us vs k xv yv wr) (fun _ _ i _ => len - (intOf i).toNat)
  case atStart => exact ⟨0, Nat.zero_le _, rfl, PL.start w0 us vs⟩
  case round =>
    obtain ⟨k, hk, rfl, hpl⟩ := hrel
    have HL := Lib.hid hpl
    clear hpl
    by_cases hlt : k < len
    · obtain ⟨lb, off, rfl, hc0, hc1⟩ := HAP.out k hlt
      have HC0 := Lib.hid hc0
      have HC1 := Lib.hid hc1
      have hlb : lb < w.heap.size := World.block_lt_of_cell? w _ hc0
      have hlb0 : lb < w0.heap.size := Nat.lt_of_lt_of_le hlb HZ.out.2.2.2.size
      clear hc0 hc1
      have d0 : wr.cell? ⟨lb, off + k * 2, none⟩ = some (.int .u64 (us k)) := (HL.out.bel.cell (p := ⟨lb, off + k * 2, none⟩) hlb0).trans ((HZ.out.2.2.2.cell (p := ⟨lb, off + k * 2, none⟩) hlb).trans HC0.out)
      have d1 : wr.cell? ⟨lb, off + k * 2 + 1, none⟩ = some (.int .u64 (vs k)) := (HL.out.bel.cell (p := ⟨lb, off + k * 2 + 1, none⟩) hlb0).trans ((HZ.out.2.2.2.cell (p := ⟨lb, off + k * 2 + 1, none⟩) hlb).trans HC1.out)
      have hi0 : (0 : Int) ≤ (k : Int) := by omega
      have hi1 : (k : Int) < (len : Int) := by omega
      go_wp2_with (first
        | (go_at_call 22; refine (lof_c _ _ _).mono ?_; rintro e w1 ⟨rfl, hb1⟩; have HL1 := Lib.hid (HL.out.below hb1))
        | (at_builtin; refine wpList_append_lies _ rfl (.tmp 38) (.tmp 44) 53 rfl w0.heap.size 23 i23 (.complex .f64 0 0) 1 16 Try.underlying53 HI.out HI0.out HI1.out HI2.out rfl (by decide) _ k (XS us vs k) rfl ((HL1.out.alloc _).hx) ⟨w1.heap.size, 0, none⟩ 1 1 [.complex .f64 (cn (us k).toNat) (cn (vs k).toNat)] rfl rfl (World.news_of_block (cs := #[.complex .f64 (cn (us k).toNat) (cn (vs k).toNat)]) (t := 23) (fr := (0, 0)) (heap_alloc_new w1 _)) (by simp [Value.oneCell']) (by decide) (by unfold maxLen; omega) (by omega) (HL1.out.alloc _).bel.size _ rfl ?_; intro g cp w2 hown hgrow hg hgl; have HM := Lib.hid (PL.grow (HL1.out.alloc _) hown hgrow hg); clear hown hgrow hg; have e0 := (HM.out.bel.cell (p := ⟨lb, off + k * 2, none⟩) hlb0).trans ((HZ.out.2.2.2.cell (p := ⟨lb, off + k * 2, none⟩) hlb).trans HC0.out); have e1 := (HM.out.bel.cell (p := ⟨lb, off + k * 2 + 1, none⟩) hlb0).trans ((HZ.out.2.2.2.cell (p := ⟨lb, off + k * 2 + 1, none⟩) hlb).trans HC1.out))
        | (go_at_call 24; refine (lis_c _ _ _).mono ?_; rintro e w4 ⟨rfl, hb4⟩; have HL2 := Lib.hid (HM.out.below hb4))
        | (at_builtin; refine wpList_append_lies _ rfl (.tmp 46) (.tmp 52) 54 rfl w0.heap.size 42 i42 (.agg #[.float .f64 0, .float .f64 0]) 2 16 Try.underlying54 HJ.out HJ0.out HJ1.out HJ2.out rfl (by decide) _ k (YS us vs k) rfl ((HL2.out.alloc _).hy) ⟨w4.heap.size, 0, none⟩ 1 1 [.float .f64 (us k).toNat, .float .f64 (vs k).toNat] rfl rfl (World.news_of_block (cs := #[.float .f64 (us k).toNat, .float .f64 (vs k).toNat]) (t := 42) (fr := (0, 0)) (heap_alloc_new w4 _)) (by simp [Value.oneCell']) (by decide) (by unfold maxLen; omega) (by omega) (HL2.out.alloc _).bel.size _ rfl ?_; intro g5 cp5 w5 hown5 hgrow5 hg5 hgl5; have HN := Lib.hid (PM.grow (HL2.out.alloc _) hown5 hgrow5 hg5); clear hown5 hgrow5 hg5))
      go_roundw
      case rel => exact ⟨k + 1, by omega, by go_num, HN.out⟩
      case measure => simp [intOf]; omega
    · have hkn : k = len := by omega
      subst hkn
      obtain ⟨e1, e2, rfl⟩ := PWR.alike (al_cn a.toNat) (al_cn b.toNat) hpw hqw
      clear hpw hqw
      have HS := Lib.hid (SP.mk HZ.out HP0.out HP1.out HPS.out HL.out)
      have HZ1 := Lib.hid HZ.out.2.2.1
      have HB := Lib.hid HZ.out.2.2.2
      have hk' : k ≤ 1000 := by omega
      go_wp2_with fail
      go_region_held3 (fun w' => w'.cell? ⟨w.heap.size, 0, none⟩ = some (.int .u64 a) ∧ w'.cell? ⟨w.heap.size, 1, none⟩ = some (.int .u64 b) ∧ w'.cell? ⟨P, 0, none⟩ = some (.float .f64 qre) ∧ w'.cell? ⟨P, 1, none⟩ = some (.float .f64 qim) ∧ PL w0 us vs k u11 u12 w')
        (first | assumption | with_reducible exact SP.drew HZ1.out HPS.out HS.out | with_reducible exact SP.drewN HZ1.out HPS.out (by assumption) _ | with_reducible exact SP.keep HZ1.out HPS.out (by assumption) (by assumption))
        (first
          | (go_at_call 22; refine (lof_c _ _ _).mono ?_; rintro e w1 ⟨rfl, hb⟩)
          | (go_at_call 24; refine (lis_c _ _ _).mono ?_; rintro e w1 ⟨rfl, hb⟩)
          | (go_at_call 26; (first | (with_reducible refine (like_al pre pim qre qim _ e1 e2).mono ?_) | (with_reducible refine (like_al x y x' y' _ (fold_al hfx hfy).1 (fold_al hfx hfy).2).mono ?_)); rintro e w1 ⟨rfl, hb⟩)
          | (go_at_call 19; refine (num_c _ _).mono ?_; rintro e w' ⟨rfl, rfl⟩)
          | (go_at_call 29; refine (fold_own _ _ hk' (SP.px (show SP w w0 a b P qre qim us vs k u11 u12 _ from by assumption))).mono ?_; rintro e w' ⟨x, y, hfx, rfl, kd2, rfl⟩)
          | (go_at_call 30; refine (rfold_own _ _ hk' (SP.py (show SP w w0 a b P qre qim us vs k u11 u12 _ from by assumption))).mono ?_; rintro e w1 ⟨x', y', hfy, rfl, hb⟩)
          | (go_at_call 11; refine (live_c _).mono ?_; rintro e w1 ⟨rfl, hb⟩))
      have hS : SP w w0 a b P qre qim us vs k u11 u12 w1 := by assumption
      go_wp2_with fail
      go_ret
      exact ⟨rfl, HB.out.trans (hS.2.2.2.2.bel.mono (Nat.le_of_lt HZ1.out))⟩
end Go.Proofs.Ythadgapgnlghfaa
