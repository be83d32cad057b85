/- The reference's Send and Recv: what they answer, and what they leave. For every heap. -/
import Derived.Test.YtnaioobndgflmaaRef
namespace Go.Proofs.Ytnaioobndgflmaa
open Go Go.RowKit Go.Deep
set_option linter.unusedVariables false

theorem ownsRow_addr {w : World} {base : Nat} {e : TypeId} {size : Nat} {ap : Option Addr} {n cap : Nat} {xs : List Value} (h : w.ownsRow base e size (.slice ap n cap) n xs) (hn : 0 < n) : ∃ g, ap = some ⟨g, 0, none⟩ := by
  rcases h.2 with ⟨_, h0⟩ | ⟨g, cc, cur, hv, _⟩
  · omega
  · simp only [Value.slice.injEq] at hv
    exact ⟨g, hv.1⟩
theorem ownsRow_cap {w : World} {base : Nat} {e : TypeId} {size : Nat} {ap : Option Addr} {n m cap : Nat} {xs : List Value} (h : w.ownsRow base e size (.slice ap m cap) n xs) : n ≤ cap := by
  rcases h.2 with ⟨hv, h0⟩ | ⟨g, cc, cur, hv, _, _, hc, _⟩
  · omega
  · simp only [Value.slice.injEq] at hv
    omega
theorem ownsRow_frozen {w : World} {base : Nat} {e : TypeId} {size : Nat} {g n m cap : Nat} {xs : List Value} (h : w.ownsRow base e size (.slice (some ⟨g, 0, none⟩) m cap) n xs) (k : Nat) : w.frozen? ⟨g, k, none⟩ = false := by
  obtain ⟨cur, hc⟩ := own_heap h (g := g) rfl
  exact frozen_of_row w g k cur e hc
theorem ownsRow_at {w : World} {base : Nat} {e : TypeId} {size : Nat} {g n m cap : Nat} {xs : List Value} (h : w.ownsRow base e size (.slice (some ⟨g, 0, none⟩) m cap) n xs) {k : Nat} {u : Value} (hk : xs[k]? = some u) : w.cell? ⟨g, k, none⟩ = some u := by
  have := h.cells (g := g) rfl k u hk
  rwa [Addr.add_lit, Nat.zero_add] at this
theorem rcell_room (n i : Nat) (hi : i < n) (room : Nat → Nat) (L : Nat → Value) : ((List.range (n * 2)).map (rcell room L))[i * 2]? = some (.int .i64 (room i : Int)) := by
  rw [List.getElem?_map, List.getElem?_range (by omega)]
  simp [rcell]
theorem rcell_vals (n i : Nat) (hi : i < n) (room : Nat → Nat) (L : Nat → Value) : ((List.range (n * 2)).map (rcell room L))[i * 2 + 1]? = some (L i) := by
  rw [List.getElem?_map, List.getElem?_range (by omega)]
  simp only [Option.map_some, rcell]
  rw [if_neg (by omega), show (i * 2 + 1) / 2 = i by omega]
theorem rcell_set (n i : Nat) (hi : i < n) (room : Nat → Nat) (L : Nat → Value) (x : Value) : ((List.range (n * 2)).map (rcell room L)).set (i * 2 + 1) x = (List.range (n * 2)).map (rcell room (fset L i x)) := by
  refine List.ext_getElem? fun k => ?_
  rw [List.getElem?_set]
  by_cases hk : i * 2 + 1 = k
  · subst hk
    rw [if_pos rfl, if_pos (by simp; omega), rcell_vals n i hi, fset_same]
  · rw [if_neg hk]
    by_cases hkn : k < n * 2
    · rw [List.getElem?_map, List.getElem?_map, List.getElem?_range hkn]
      simp only [Option.map_some, rcell]
      by_cases h2 : k % 2 = 0
      · rw [if_pos h2, if_pos h2]
      · rw [if_neg h2, if_neg h2, fset_other _ _ _ (by omega)]
    · rw [List.getElem?_eq_none (by simp; omega), List.getElem?_eq_none (by simp; omega)]
theorem Nums.news {w : World} {pa : Option Addr} {l : List Int} (h : Nums w pa l) : ∀ j u, (l.map (Value.int .u64))[j]? = some u → ∃ ad, pa = some ad ∧ w.cell? (ad.add j) = some u := by
  intro j u hj
  have hl : j < l.length := by
    have := (List.getElem?_eq_some_iff.1 hj).1
    simpa using this
  obtain ⟨b, off, e, hc⟩ := h j hl
  refine ⟨_, e, ?_⟩
  rw [Addr.add_lit, hc, ← hj, List.getElem?_map, List.getElem?_eq_getElem hl]
  simp [List.getD, List.getElem?_eq_getElem hl]
theorem nums_one (l : List Int) : ∀ u ∈ l.map (Value.int .u64), u.oneCell' = true := by
  intro u hu
  obtain ⟨z, _, rfl⟩ := List.mem_map.1 hu
  rfl
theorem Lrow.ofOwn {T : Nat → Prop} {w : World} {base : Nat} {ap : Option Addr} {n cap : Nat} {l : List Int} (h : w.ownsRow base 33 1 (.slice ap n cap) n (l.map (Value.int .u64))) (hT : ∀ g, (Value.slice ap n cap).ownBlock = some g → T g) : Lrow T w (.slice ap n cap) l := by
  have hn : l.length = n := by have := h.1; simpa using this
  subst hn
  refine ⟨ap, cap, rfl, ownsRow_cap h, fun k hk => ?_, fun ad e => hT _ (by rw [e]; rfl)⟩
  obtain ⟨g, rfl⟩ := ownsRow_addr h (by omega)
  refine ⟨g, 0, rfl, ?_⟩
  rw [Nat.zero_add]
  refine ownsRow_at h ?_
  rw [List.getElem?_map, List.getElem?_eq_getElem hk]
  simp [List.getD, List.getElem?_eq_getElem hk]

/-- behind a store into the new boxes. -/
theorem RefAt.stored {T : Nat → Prop} {w w1 w4 : World} {v : Value} {n : Nat} {room : Nat → Nat} {vs : Nat → List Int} {L : Nat → Value} (h : RefAt T w v n room vs L) {i : Nat} (hi : i < n) {g1 c1 : Nat}
    (hb1 : Below w.heap.size w w1) (ho1 : w1.ownsRow w.heap.size 67 2 (.slice (some ⟨g1, 0, none⟩) n c1) n ((List.range (n * 2)).map (rcell room L))) (hb4 : Below w1.heap.size w1 w4) {ap : Option Addr} {m cap : Nat} {l : List Int}
    (ho4 : w4.ownsRow w1.heap.size 33 1 (.slice ap m cap) m (l.map (Value.int .u64))) :
    Ref (Nxt T w (w4.setCell ⟨g1, i * 2 + 1, none⟩ (.slice ap m cap))) (w4.setCell ⟨g1, i * 2 + 1, none⟩ (.slice ap m cap)) (.slice (some ⟨g1, 0, none⟩) n c1) n room (fset vs i l) ∧ Below w.heap.size w (w4.setCell ⟨g1, i * 2 + 1, none⟩ (.slice ap m cap)) := by
  have hg1 := ho1.lt g1 rfl
  have hs1 := hb1.size
  have hs4 := hb4.size
  have hb : Below w.heap.size w (w4.setCell ⟨g1, i * 2 + 1, none⟩ (.slice ap m cap)) := (hb1.trans (hb4.mono hs1)).setCell hg1.1 _
  have hne : (Value.slice ap m cap).ownBlock ≠ some g1 := fun e => by have := (ho4.lt g1 e).1; omega
  refine ⟨⟨fset L i (.slice ap m cap), ?_, fun g hg => ?_, fun j hj => ?_⟩, hb⟩
  · rw [← rcell_set n i hi]
    exact ownsRow_base (ownsRow_set (ownsRow_keep ho1 fun k hk => hb4.block k (by cases hk; exact hg1.2)) (g := g1) rfl (i * 2 + 1) (by omega) _)
  · simp only [Value.ownBlock, Option.some.injEq] at hg
    subst hg
    refine .inr ⟨hg1.1, ?_⟩
    rw [nblk_setCell]
    omega
  · by_cases e : j = i
    · subst e
      simp only [fset_same]
      refine Lrow.ofOwn (ownsRow_setCell_other ho4 hne _) fun g hg => .inr ?_
      rw [nblk_setCell]
      have := ho4.lt g hg
      omega
    · simp only [fset_other _ _ _ e]
      exact (h.vals j hj).keep (fun k h => .inl h) fun k _ hk => hb.block k hk

theorem ref_send_out (pa : Option Addr) (n ca : Nat) (i x : Int) (w : World) (hi : i < 0 ∨ (n : Int) ≤ i) : Calls Try.prog 16 #[.slice pa n ca, .int .i64 i, .int .u64 x] w fun r w' => r = .returned (.tuple #[.slice pa n ca, .int .i64 1]) ∧ w = w' := by
  by_cases h1 : i < 0
  · clear hi
    go_enter Try.func16, Try.ntmps16
    go_wp2
    go_ret2
    exact ⟨rfl, rfl⟩
  · have h2 : (n : Int) ≤ i := by omega
    have h3 : 0 ≤ i := by omega
    clear hi h1
    go_enter Try.func16, Try.ntmps16
    go_wp2
    go_ret2
    exact ⟨rfl, rfl⟩

set_option maxRecDepth 100000 in
theorem ref_send_full {T : Nat → Prop} {w : World} {v : Value} {n : Nat} {room : Nat → Nat} {vs : Nat → List Int} (h : Ref T w v n room vs) (i : Nat) (x : Int) (hi : i < n) (hf : (vs i).length = room i) :
    Calls Try.prog 16 #[v, .int .i64 (i : Int), .int .u64 x] w fun r w' => r = .returned (.tuple #[v, .int .i64 7]) ∧ ∃ m, w' = w.drewN m := by
  obtain ⟨L, hA⟩ := h
  obtain ⟨g, ca, rfl⟩ := ownsRow_slice hA.row (by omega)
  obtain ⟨pl, cl, hL, hcl, hnl, _⟩ := hA.vals i hi
  have k0 : w.cell? ⟨g, i * 2, none⟩ = some (.int .i64 (room i : Int)) := ownsRow_at hA.row (rcell_room n i hi room L)
  have k1 : w.cell? ⟨g, i * 2 + 1, none⟩ = some (.slice pl (room i) cl) := by rw [← hf, ← hL]; exact ownsRow_at hA.row (rcell_vals n i hi room L)
  have hin : (i : Int) < (n : Int) := by omega
  clear hA hL hcl hnl hf
  go_enter Try.func16, Try.ntmps16
  go_wp2_with fail
  go_quiet (fail)
  go_wp2
  go_ret2
  exact ⟨rfl, nq, rfl⟩

set_option maxRecDepth 100000 in
set_option maxHeartbeats 1000000 in
theorem ref_send {T : Nat → Prop} {w : World} {v : Value} {n : Nat} {room : Nat → Nat} {vs : Nat → List Int} (h : Ref T w v n room vs) (hn : n ≤ 1024) (i : Nat) (x : Int) (hi : i < n) (hf : (vs i).length < room i) (hr : room i ≤ 1024) :
    Calls Try.prog 16 #[v, .int .i64 (i : Int), .int .u64 x] w fun r w' => ∃ v', r = .returned (.tuple #[v', .int .i64 0]) ∧ Ref (Nxt T w w') w' v' n room (fset vs i (vs i ++ [x])) ∧ Below w.heap.size w w' := by
  obtain ⟨L, hA⟩ := h
  obtain ⟨g, ca, rfl⟩ := ownsRow_slice hA.row (by omega)
  obtain ⟨pl, cl, hL, hcl, hnl, hpl⟩ := hA.vals i hi
  obtain ⟨l, hl⟩ : ∃ l, l = vs i := ⟨_, rfl⟩
  rw [← hl] at hL hcl hnl hf
  have k0 : w.cell? ⟨g, i * 2, none⟩ = some (.int .i64 (room i : Int)) := ownsRow_at hA.row (rcell_room n i hi room L)
  have k1 : w.cell? ⟨g, i * 2 + 1, none⟩ = some (.slice pl l.length cl) := by rw [← hL]; exact ownsRow_at hA.row (rcell_vals n i hi room L)
  have hgl := (hA.row.lt g rfl).2
  have hin : (i : Int) < (n : Int) := by omega
  have hne : ((l.length : Int)) ≠ (room i : Int) := by omega
  have hll : l.length ≤ 1024 := by omega
  obtain ⟨XS, hXS⟩ : ∃ XS, XS = (List.range (n * 2)).map (rcell room L) := ⟨_, rfl⟩
  have hrow : Hid (w.ownsRow 0 67 2 (.slice (some ⟨g, 0, none⟩) n ca) n XS) := by rw [hXS]; exact hA.row
  have hone : Hid (∀ u ∈ XS, u.oneCell' = true) := by rw [hXS]; exact hA.one
  have hix : Hid (XS[i * 2 + 1]? = some (.slice pl l.length cl)) := by rw [hXS, ← hL]; exact rcell_vals n i hi room L
  have HX := Lib.hid hXS
  have HA := Lib.hid hA
  have HL := Lib.hid hl
  have HN := Lib.hid hnl
  have HP : Hid (∀ ad, pl = some ad → l.length = 0 ∨ ad.block < w.heap.size) := fun ad e => by
    by_cases h0 : l.length = 0
    · exact .inl h0
    · obtain ⟨b, off, e', hc⟩ := hnl 0 (by omega)
      rw [e] at e'
      cases e'
      exact .inr (World.block_lt_of_cell? w _ hc)
  clear hA hXS hl hL hcl hnl hpl hf
  obtain ⟨i67, hi67, hz0, hz1, hz2⟩ := info_parts info67
  have HI := Lib.hid hi67
  have HI0 := Lib.hid hz0
  have HI1 := Lib.hid hz1
  have HI2 := Lib.hid hz2
  clear hi67 hz0 hz1 hz2
  obtain ⟨i33, hi33, hz0, hz1, hz2⟩ := info_parts info33
  have HJ := Lib.hid hi33
  have HJ0 := Lib.hid hz0
  have HJ1 := Lib.hid hz1
  have HJ2 := Lib.hid hz2
  clear hi33 hz0 hz1 hz2
  go_enter Try.func16, Try.ntmps16
  go_wp2_with fail
  go_quiet (fail)
  have e0 : Below w.heap.size w (w.drewN nq) := ⟨rfl, rfl, rfl, Nat.le_refl _, fun _ _ => rfl⟩
  have q0 : (w.drewN nq).cell? ⟨g, i * 2 + 1, none⟩ = some (.slice pl l.length cl) := k1
  have HR : Hid ((w.drewN nq).ownsRow 0 67 2 (.slice (some ⟨g, 0, none⟩) n ca) n XS) := hrow.out
  have HN0 : Hid (Nums (w.drewN nq) pl l) := HN.out
  generalize w.drewN nq = w0 at *
  have hs0 := e0.size
  have hgl0 : g < w0.heap.size := by omega
  go_wp2_with (first
    | (at_builtin; refine wpList_append_any _ rfl (.tmp 31) (.tmp 32) 38 rfl w.heap.size 67 i67 (.agg #[.int .i64 0, .slice none 0 0]) 2 32 Try.underlying38 HI.out HI0.out HI1.out HI2.out rfl (by decide) _ 0 [] rfl (World.ownsRow_made w0 #[] 0 (by omega) (by decide) rfl)
        (some ⟨g, 0, none⟩) n ca XS rfl HR.out.1 (ownsRow_news (HR.out.alloc _)) hone.out (by unfold maxLen; omega) (by omega) (by rw [nblk_alloc]; omega) ?_; intro ap cp w1 hown hgrow hg
       simp only [Nat.zero_add, List.nil_append] at hown hg
       have hb1 : Below w.heap.size w w1 := Below.grown (e0.alloc (by omega) _) hgrow (by rw [nblk_alloc]; omega) (fun k hk => by cases hk; omega)
       obtain ⟨g1, rfl⟩ := ownsRow_addr hown (by omega)
       have k2 : w1.cell? ⟨g, i * 2 + 1, none⟩ = some (.slice pl l.length cl) := (hb1.cell (p := ⟨g, i * 2 + 1, none⟩) hgl).trans k1
       have HN1 : Hid (Nums w1 pl l) := HN.out.keep fun ad e hlt => hb1.block _ hlt
       have HO1 := Lib.hid hown
       have HB1 := Lib.hid hb1
       have hs1 := hb1.size
       have hgl1 : g < w1.heap.size := by omega
       have hg1 := (hown.lt g1 rfl).2
       clear hown hgrow hg hb1
       simp only [Nat.zero_add])
    | (at_builtin; refine wpList_append_any _ rfl (.tmp 36) (.tmp 41) 49 rfl w1.heap.size 33 i33 (.int .u64 0) 1 8 Try.underlying49 HJ.out HJ0.out HJ1.out HJ2.out rfl (by decide) _ 0 [] rfl (World.ownsRow_made w1 #[] 0 (Nat.le_refl _) (by decide) rfl)
        pl l.length cl (l.map (Value.int .u64)) rfl (by simp) (HN1.out.keep fun ad e hlt => blk_alloc_lt _ _ _ hlt).news (nums_one l) (by unfold maxLen; omega) (by omega) (by rw [nblk_alloc]; omega) ?_; intro ap2 cp2 w2 hown hgrow hg
       simp only [Nat.zero_add, List.nil_append] at hown hg
       have hb2 : Below w1.heap.size w1 w2 := Below.grown ((Below.refl _ w1).alloc (Nat.le_refl _) _) hgrow (by rw [nblk_alloc]; omega) (fun k hk => by cases hk; exact Nat.le_refl _)
       have HO2 := Lib.hid hown
       have HB2 := Lib.hid hb2
       have hs2 := hb2.size
       clear hown hgrow hg hb2
       simp only [Nat.zero_add])
    | (at_builtin; refine wpList_append_any _ rfl (.tmp 42) (.tmp 44) 49 rfl w1.heap.size 33 i33 (.int .u64 0) 1 8 Try.underlying49 HJ.out HJ0.out HJ1.out HJ2.out rfl (by decide) _ l.length (l.map (Value.int .u64)) rfl (HO2.out.alloc _)
        (some ⟨w2.heap.size, 0, none⟩) 1 1 [.int .u64 x] rfl rfl (fun j u hj => ⟨_, rfl, World.news_of_block (cs := #[.int .u64 x]) (t := 33) (fr := (0, 0)) (heap_alloc_new w2 _) j u hj⟩) (by simp [Value.oneCell']) (by unfold maxLen; omega) (by omega) (by rw [nblk_alloc]; omega) ?_; intro ap3 cp3 w3 hown hgrow hg
       have hb3 : Below w1.heap.size w1 w3 := Below.grown (HB2.out.alloc hs2 _) hgrow (by rw [nblk_alloc]; omega) (fun k hk => (HO2.out.lt k hk).1)
       have ho1 : w3.ownsRow w.heap.size 67 2 (.slice (some ⟨g1, 0, none⟩) n cp) n XS := ownsRow_keep HO1.out fun k hk => hb3.block k (by cases hk; exact hg1)
       have f3 : w3.frozen? ⟨g1, i * 2 + 1, none⟩ = false := ownsRow_frozen ho1 _
       have c3 : w3.cell? ⟨g1, i * 2 + 1, none⟩ = some (.slice pl l.length cl) := ownsRow_at ho1 hix.out
       have HO3 := Lib.hid hown
       have HB3 := Lib.hid hb3
       clear hown hgrow hg hb3 ho1))
  go_ret2
  have := HA.out.stored hi HB1.out (by rw [← HX.out]; exact HO1.out) HB3.out (l := l ++ [x]) (by rw [List.map_append]; exact HO3.out)
  rw [← HL.out]
  exact ⟨_, rfl, this⟩

theorem ref_recv_out (pa : Option Addr) (n ca : Nat) (i : Int) (w : World) (hi : i < 0 ∨ (n : Int) ≤ i) : Calls Try.prog 17 #[.slice pa n ca, .int .i64 i] w fun r w' => r = .returned (.tuple #[.slice pa n ca, .int .u64 0, .int .i64 1]) ∧ w = w' := by
  by_cases h1 : i < 0
  · clear hi
    go_enter Try.func17, Try.ntmps17
    go_wp2
    go_ret3
    exact ⟨rfl, rfl⟩
  · have h2 : (n : Int) ≤ i := by omega
    have h3 : 0 ≤ i := by omega
    clear hi h1
    go_enter Try.func17, Try.ntmps17
    go_wp2
    go_ret3
    exact ⟨rfl, rfl⟩

set_option maxRecDepth 100000 in
theorem ref_recv_empty {T : Nat → Prop} {w : World} {v : Value} {n : Nat} {room : Nat → Nat} {vs : Nat → List Int} (h : Ref T w v n room vs) (i : Nat) (hi : i < n) (hf : (vs i).length = 0) :
    Calls Try.prog 17 #[v, .int .i64 (i : Int)] w fun r w' => r = .returned (.tuple #[v, .int .u64 0, .int .i64 7]) ∧ w = w' := by
  obtain ⟨L, hA⟩ := h
  obtain ⟨g, ca, rfl⟩ := ownsRow_slice hA.row (by omega)
  obtain ⟨pl, cl, hL, hcl, hnl, _⟩ := hA.vals i hi
  have k1 : w.cell? ⟨g, i * 2 + 1, none⟩ = some (.slice pl 0 cl) := by rw [← hf, ← hL]; exact ownsRow_at hA.row (rcell_vals n i hi room L)
  have hin : (i : Int) < (n : Int) := by omega
  clear hA hL hcl hnl hf
  go_enter Try.func17, Try.ntmps17
  go_wp2
  go_ret3
  exact ⟨rfl, rfl⟩

/-- the values from the second on. -/
theorem Nums.tail {w : World} {b off : Nat} {x : Int} {l : List Int} (h : Nums w (some ⟨b, off, none⟩) (x :: l)) : Nums w (some ⟨b, off + 1, none⟩) l := by
  intro k hk
  obtain ⟨b', off', e, hc⟩ := h (k + 1) (by simp; omega)
  cases e
  refine ⟨b, off + 1, rfl, ?_⟩
  rw [show off + 1 + k = off + (k + 1) by omega, hc]
  simp [List.getD]

set_option maxRecDepth 100000 in
set_option maxHeartbeats 1000000 in
theorem ref_recv {T : Nat → Prop} {w : World} {v : Value} {n : Nat} {room : Nat → Nat} {vs : Nat → List Int} (h : Ref T w v n room vs) (hn : n ≤ 1024) (i : Nat) (hi : i < n) {x : Int} {rest : List Int} (hx : vs i = x :: rest) (hr : rest.length < 1024) :
    Calls Try.prog 17 #[v, .int .i64 (i : Int)] w fun r w' => ∃ v', r = .returned (.tuple #[v', .int .u64 x, .int .i64 0]) ∧ Ref (Nxt T w w') w' v' n room (fset vs i rest) ∧ Below w.heap.size w w' := by
  obtain ⟨L, hA⟩ := h
  obtain ⟨g, ca, rfl⟩ := ownsRow_slice hA.row (by omega)
  obtain ⟨pl, cl, hL, hcl, hnl, hpl⟩ := hA.vals i hi
  rw [hx] at hL hcl hnl
  simp only [List.length_cons] at hL hcl
  obtain ⟨b, off, rfl, k2⟩ := hnl 0 (by simp)
  rw [Nat.add_zero, show (x :: rest).getD 0 0 = x from rfl] at k2
  have hbl : b < w.heap.size := World.block_lt_of_cell? w _ k2
  have k1 : w.cell? ⟨g, i * 2 + 1, none⟩ = some (.slice (some ⟨b, off, none⟩) (rest.length + 1) cl) := by rw [← hL]; exact ownsRow_at hA.row (rcell_vals n i hi room L)
  have hgl := (hA.row.lt g rfl).2
  have hin : (i : Int) < (n : Int) := by omega
  have hr0 : ((rest.length + 1 : Nat) : Int) ≠ 0 := by omega
  have hcl' : (1 : Int) ≤ (cl : Int) := by omega
  obtain ⟨XS, hXS⟩ : ∃ XS, XS = (List.range (n * 2)).map (rcell room L) := ⟨_, rfl⟩
  have hrow : Hid (w.ownsRow 0 67 2 (.slice (some ⟨g, 0, none⟩) n ca) n XS) := by rw [hXS]; exact hA.row
  have hone : Hid (∀ u ∈ XS, u.oneCell' = true) := by rw [hXS]; exact hA.one
  have hix : Hid (XS[i * 2 + 1]? = some (.slice (some ⟨b, off, none⟩) (rest.length + 1) cl)) := by rw [hXS, ← hL]; exact rcell_vals n i hi room L
  have HX := Lib.hid hXS
  have HA := Lib.hid hA
  have HXX := Lib.hid hx
  have HN : Hid (Nums w (if cl = 1 then some ⟨b, off, none⟩ else some ⟨b, off + 1, none⟩) rest) := by
    by_cases hc1 : cl = 1
    · rw [if_pos hc1]
      exact fun k hk => by omega
    · rw [if_neg hc1]
      exact hnl.tail
  clear hA hXS hL hnl hpl hx
  obtain ⟨i67, hi67, hz0, hz1, hz2⟩ := info_parts info67
  have HI := Lib.hid hi67
  have HI0 := Lib.hid hz0
  have HI1 := Lib.hid hz1
  have HI2 := Lib.hid hz2
  clear hi67 hz0 hz1 hz2
  obtain ⟨i33, hi33, hz0, hz1, hz2⟩ := info_parts info33
  have HJ := Lib.hid hi33
  have HJ0 := Lib.hid hz0
  have HJ1 := Lib.hid hz1
  have HJ2 := Lib.hid hz2
  clear hi33 hz0 hz1 hz2
  go_enter Try.func17, Try.ntmps17
  go_wp2_with (first
    | (at_builtin
       (
         refine wpList_append_any _ rfl (.tmp 25) (.tmp 26) 38 rfl w.heap.size 67 i67 (.agg #[.int .i64 0, .slice none 0 0]) 2 32 Try.underlying38 HI.out HI0.out HI1.out HI2.out rfl (by decide) _ 0 [] rfl (World.ownsRow_made w #[] 0 (by omega) (by decide) rfl) (some ⟨g, 0, none⟩) n ca XS rfl hrow.out.1 (ownsRow_news (hrow.out.alloc _)) hone.out (by unfold maxLen; omega) (by omega) (by rw [nblk_alloc]; omega) ?_
         intro ap cp w1 hown hgrow hg
         simp only [Nat.zero_add, List.nil_append] at hown hg
         have hb1 : Below w.heap.size w w1 := Below.grown ((Below.refl _ w).alloc (Nat.le_refl _) _) hgrow (by rw [nblk_alloc]; omega) (fun k hk => by cases hk; exact Nat.le_refl _)
         obtain ⟨g1, rfl⟩ := ownsRow_addr hown (by omega)
         have k3 : w1.cell? ⟨g, i * 2 + 1, none⟩ = some (.slice (some ⟨b, off, none⟩) (rest.length + 1) cl) := (hb1.cell (p := ⟨g, i * 2 + 1, none⟩) hgl).trans k1
         have HN1 : Hid (Nums w1 (if cl = 1 then some ⟨b, off, none⟩ else some ⟨b, off + 1, none⟩) rest) := HN.out.keep fun ad e hlt => hb1.block _ hlt
         have HO1 := Lib.hid hown
         have HB1 := Lib.hid hb1
         have hs1 := hb1.size
         have hgl1 : g < w1.heap.size := by omega
         have hg1 := (hown.lt g1 rfl).2
         clear hown hgrow hg hb1
         simp only [Nat.zero_add]))
    | (at_builtin
       (
         refine wpList_append_any _ rfl (.tmp 30) (.tmp 36) 49 rfl w1.heap.size 33 i33 (.int .u64 0) 1 8 Try.underlying49 HJ.out HJ0.out HJ1.out HJ2.out rfl (by decide) _ 0 [] rfl (World.ownsRow_made w1 #[] 0 (Nat.le_refl _) (by decide) rfl) (if cl = 1 then some ⟨b, off, none⟩ else some ⟨b, off + 1, none⟩) rest.length (cl - 1) (rest.map (Value.int .u64)) rfl (by simp) (HN1.out.keep fun ad e hlt => blk_alloc_lt _ _ _ hlt).news (nums_one rest) (by unfold maxLen; omega) (by omega) (by rw [nblk_alloc]; omega) ?_
         intro ap2 cp2 w2 hown hgrow hg
         simp only [Nat.zero_add, List.nil_append] at hown hg
         have hb2 : Below w1.heap.size w1 w2 := Below.grown ((Below.refl _ w1).alloc (Nat.le_refl _) _) hgrow (by rw [nblk_alloc]; omega) (fun k hk => by cases hk; exact Nat.le_refl _)
         have ho1 : w2.ownsRow w.heap.size 67 2 (.slice (some ⟨g1, 0, none⟩) n cp) n XS := ownsRow_keep HO1.out fun k hk => hb2.block k (by cases hk; exact hg1)
         have f3 : w2.frozen? ⟨g1, i * 2 + 1, none⟩ = false := ownsRow_frozen ho1 _
         have c3 : w2.cell? ⟨g1, i * 2 + 1, none⟩ = some (.slice (some ⟨b, off, none⟩) (rest.length + 1) cl) := ownsRow_at ho1 hix.out
         have HO2 := Lib.hid hown
         have HB2 := Lib.hid hb2
         clear hown hgrow hg hb2 ho1
         simp only [Nat.zero_add])))
  all_goals
    have hst := HA.out.stored hi HB1.out (by rw [← HX.out]; exact HO1.out) HB2.out (l := rest) HO2.out
    generalize w2.setCell ⟨g1, i * 2 + 1, none⟩ (.slice ap2 rest.length cp2) = w3 at *
    have j1 : w3.cell? ⟨g, i * 2 + 1, none⟩ = some (.slice (some ⟨b, off, none⟩) (rest.length + 1) cl) := (hst.2.cell (p := ⟨g, i * 2 + 1, none⟩) hgl).trans k1
    have j2 : w3.cell? ⟨b, off, none⟩ = some (.int .u64 x) := (hst.2.cell (p := ⟨b, off, none⟩) hbl).trans k2
    have HST := Lib.hid hst
    clear hst
    go_quiet (fail)
    go_wp2
    go_ret3
    refine ⟨_, rfl, ?_, ?_⟩
    · exact HST.out.1.keep (fun k h => h) fun k _ _ => rfl
    · exact ⟨HST.out.2.os, HST.out.2.tape, HST.out.2.output, HST.out.2.size, HST.out.2.block⟩
end Go.Proofs.Ytnaioobndgflmaa
