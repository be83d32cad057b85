/- The reference's boxes: a row of boxes in memory, and Make, Send, Recv by definition. For every heap. -/
import Derived.Test.YtnaioobndgflmaaSame
import Derived.Deep.Upon
namespace Go.Proofs.Ytnaioobndgflmaa
open Go Go.RowKit Go.Deep
set_option linter.unusedVariables false

section
variable {P : Program} (w : World)
/-- append, whatever is appended, nothing too. -/
theorem run_append_any (t ty : TypeId) (base : Nat) (e : TypeId) (i : TypeInfo) (z : Value) (size bytes : Nat) (ht : P.underlying t = some (.slice e)) (hi : P.info? e = some i) (hz : i.zero = some z)
    (hsize : i.size = size) (hby : i.bytes = bytes) (hzs : z.cells.size = size) (hsz : 0 < size)
    (v : Value) (n : Nat) (xs : List Value) (hown : w.ownsRow base e size v n xs)
    (pa : Option Addr) (m c : Nat) (news : List Value) (hl : news.length = m * size) (hnews : ∀ j u, news[j]? = some u → ∃ ad, pa = some ad ∧ w.cell? (ad.add j) = some u) (h1 : ∀ u ∈ news, u.oneCell' = true)
    (h63 : n + m ≤ maxLen) (hbytes : (n + m) * bytes ≤ 140737488355328) (hbase : base ≤ w.heap.size) :
    ∃ v' w', (Builtin.append_ #[t, t] ty #[v, .slice pa m c]).run P w = .ok v' w' ∧
      w'.ownsRow base e size v' (n + m) (xs ++ news) ∧ w.grownBy w' v.ownBlock ∧ (v'.ownBlock = v.ownBlock ∨ v'.ownBlock = some w.heap.size) := by
  cases pa with
  | some ad =>
    obtain ⟨v', w', hr, h2, h3, _, h5⟩ := run_append_own_at (P := P) w base t ty e i z size bytes ht hi hz hsize hby hzs hsz v n xs hown ad m c news hl (fun j u hj => by obtain ⟨ad', e', hc⟩ := hnews j u hj; cases e'; exact hc) h1 h63 hbytes hbase
    exact ⟨v', w', hr, h2, h3, h5⟩
  | none =>
    have hm : m = 0 := by
      by_cases hm : m = 0
      · exact hm
      · have h0 : 0 < news.length := by rw [hl]; exact Nat.mul_pos (by omega) hsz
        obtain ⟨ad', e', _⟩ := hnews 0 news[0] (List.getElem?_eq_getElem h0)
        cases e'
    subst hm
    have hn : news = [] := List.eq_nil_of_length_eq_zero (by simpa using hl)
    subst hn
    obtain ⟨ap, cap, rfl⟩ := ownsRow_len hown
    have hle : n ≤ cap := by
      rcases hown.2 with ⟨hv, h0⟩ | ⟨g, cc, cur, hv, hb, hg, hnc, _⟩
      · omega
      · simp only [Value.slice.injEq] at hv
        omega
    refine ⟨_, _, run_append_nothing (P := P) w t t ty e i ht hi ap n cap hle (.slice none 0 c) (Src.ofNil w ht c), by simpa using hown, ⟨rfl, rfl, rfl, Nat.le_refl _, fun _ _ _ => rfl⟩, .inl rfl⟩
theorem wpList_append_any {ops : Array Oper} {rest : List Oper} {o : Oper} {a : Act} {Q : Exit → Act → World → Prop} (hgd : o.guard = none) (s x : Operand) (t : TypeId)
    (ho : o.op = .call { callee := .builtin .append, args := #[s, x], argTypes := #[t, t] })
    (base : Nat) (e : TypeId) (i : TypeInfo) (z : Value) (size bytes : Nat) (ht : P.underlying t = some (.slice e)) (hi : P.info? e = some i) (hz : i.zero = some z)
    (hsize : i.size = size) (hby : i.bytes = bytes) (hzs : z.cells.size = size) (hsz : 0 < size)
    (v : Value) (n : Nat) (xs : List Value) (hs : a.eval s = v) (hown : w.ownsRow base e size v n xs)
    (pa : Option Addr) (m c : Nat) (news : List Value) (hx : a.eval x = .slice pa m c) (hl : news.length = m * size) (hnews : ∀ j u, news[j]? = some u → ∃ ad, pa = some ad ∧ w.cell? (ad.add j) = some u) (h1 : ∀ u ∈ news, u.oneCell' = true)
    (h63 : n + m ≤ maxLen) (hbytes : (n + m) * bytes ≤ 140737488355328) (hbase : base ≤ w.heap.size)
    (h : ∀ ap cap w', w'.ownsRow base e size (.slice ap (n + m) cap) (n + m) (xs ++ news) → w.grownBy w' v.ownBlock → ((Value.slice ap (n + m) cap).ownBlock = v.ownBlock ∨ (Value.slice ap (n + m) cap).ownBlock = some w.heap.size) → wpList P ops Q rest (a.put o.dst (.slice ap (n + m) cap)) w') :
    wpList P ops Q (o :: rest) a w := by
  refine wpList_plain hgd fun K hK => ?_
  obtain ⟨v', w', hr, h2, h3, h5⟩ := run_append_any (P := P) w t o.type base e i z size bytes ht hi hz hsize hby hzs hsz v n xs hown pa m c news hl hnews h1 h63 hbytes hbase
  obtain ⟨ap, cap, rfl⟩ := ownsRow_len h2
  unfold Oper.wp execOp
  simp only [ho, resolve, invoke, builtin, Sem.run_bind, Sem.run_pure, Result.andThen_ok, List.map_toArray, List.map_cons, List.map_nil, hs, hx, hr]
  exact hK _ _ (h ap cap w' h2 h3 h5)
end

theorem ownsRow_set {w : World} {base : Nat} {e : TypeId} {size : Nat} {v : Value} {n : Nat} {xs : List Value} (h : w.ownsRow base e size v n xs) {g : Nat} (hg : v.ownBlock = some g) (k : Nat) (hk : k < n * size) (u : Value) : (w.setCell ⟨g, k, none⟩ u).ownsRow base e size v n (xs.set k u) := by
  refine ⟨by rw [List.length_set]; exact h.1, ?_⟩
  rcases h.2 with ⟨rfl, _⟩ | ⟨g', cap, cur, rfl, hb, hgg, h1, h2, h3, h4⟩
  · simp [Value.ownBlock] at hg
  · simp only [Value.ownBlock, Option.some.injEq] at hg
    subst hg
    refine .inr ⟨_, cap, _, rfl, hb, heap_setCell_same w _ k _ _ u hgg, h1, h2, by simpa using h3, ?_⟩
    rw [Array.toList_setIfInBounds, List.take_set, h4]

/-- the cells of the reference's boxes. -/
def rcell (room : Nat → Nat) (L : Nat → Value) (k : Nat) : Value := if k % 2 = 0 then .int .i64 (room (k / 2) : Int) else L (k / 2)
/-- a box's values in the reference. -/
def Lrow (T : Nat → Prop) (w : World) (x : Value) (l : List Int) : Prop := ∃ pa c, x = .slice pa l.length c ∧ l.length ≤ c ∧ Nums w pa l ∧ ∀ ad, pa = some ad → T ad.block
/-- the reference's boxes. -/
structure RefAt (T : Nat → Prop) (w : World) (v : Value) (n : Nat) (room : Nat → Nat) (vs : Nat → List Int) (L : Nat → Value) : Prop where
  row : w.ownsRow 0 67 2 v n ((List.range (n * 2)).map (rcell room L))
  mine : ∀ g, v.ownBlock = some g → T g
  vals : ∀ j, j < n → Lrow T w (L j) (vs j)
def Ref (T : Nat → Prop) (w : World) (v : Value) (n : Nat) (room : Nat → Nat) (vs : Nat → List Int) : Prop := ∃ L, RefAt T w v n room vs L

theorem Nums.keep {w w' : World} {pa : Option Addr} {l : List Int} (h : Nums w pa l) (hk : ∀ ad, pa = some ad → ad.block < w.heap.size → w'.heap[ad.block]? = w.heap[ad.block]?) : Nums w' pa l := by
  intro k hkl
  obtain ⟨b, off, e, hc⟩ := h k hkl
  refine ⟨b, off, e, ?_⟩
  have := hk _ e (show b < _ from World.block_lt_of_cell? w _ hc)
  rw [World.cell?_of_block (a := ⟨b, off + k, none⟩) this, hc]
theorem Lrow.keep {T T' : Nat → Prop} {w w' : World} {x : Value} {l : List Int} (h : Lrow T w x l) (hT : ∀ k, T k → T' k) (hk : ∀ k, T k → k < w.heap.size → w'.heap[k]? = w.heap[k]?) : Lrow T' w' x l := by
  obtain ⟨pa, c, rfl, hc, hn, ht⟩ := h
  exact ⟨pa, c, rfl, hc, hn.keep fun ad e hlt => hk _ (ht ad e) hlt, fun ad e => hT _ (ht ad e)⟩
theorem RefAt.keep {T T' : Nat → Prop} {w w' : World} {v : Value} {n : Nat} {room : Nat → Nat} {vs : Nat → List Int} {L : Nat → Value} (h : RefAt T w v n room vs L) (hT : ∀ k, T k → T' k) (hk : ∀ k, T k → k < w.heap.size → w'.heap[k]? = w.heap[k]?) : RefAt T' w' v n room vs L :=
  ⟨ownsRow_keep h.row fun k hv => hk k (h.mine k hv) (h.row.lt k hv).2, fun g hg => hT g (h.mine g hg), fun j hj => (h.vals j hj).keep hT hk⟩
theorem Ref.keep {T T' : Nat → Prop} {w w' : World} {v : Value} {n : Nat} {room : Nat → Nat} {vs : Nat → List Int} (h : Ref T w v n room vs) (hT : ∀ k, T k → T' k) (hk : ∀ k, T k → k < w.heap.size → w'.heap[k]? = w.heap[k]?) : Ref T' w' v n room vs := by
  obtain ⟨L, h⟩ := h
  exact ⟨L, h.keep hT hk⟩

theorem ref_make_range (v : Value) (rm : Int) (w : World) (h : rm < 1 ∨ 1024 < rm) : Calls Try.prog 15 #[v, .int .i64 rm] w fun r w' => r = .returned (.tuple #[v, .int .i64 0, .int .i64 9]) ∧ w = w' := by
  by_cases h1 : rm < 1
  · clear h
    go_enter Try.func15, Try.ntmps15
    go_wp2
    go_ret3
    exact ⟨rfl, rfl⟩
  · have h2 : 1024 < rm := by omega
    clear h
    go_enter Try.func15, Try.ntmps15
    go_wp2
    go_ret3
    exact ⟨rfl, rfl⟩

theorem info67 : (Try.prog.info? 67).map (fun i => (i.zero, i.size, i.bytes)) = some (some (.agg #[.int .i64 0, .slice none 0 0]), 2, 32) := by kernel_rfl

theorem ownsRow_news {w : World} {base : Nat} {e : TypeId} {size : Nat} {pa : Option Addr} {n m cap : Nat} {xs : List Value} (h : w.ownsRow base e size (.slice pa m cap) n xs) : ∀ j u, xs[j]? = some u → ∃ ad, pa = some ad ∧ w.cell? (ad.add j) = some u := by
  intro j u hj
  rcases h.2 with ⟨_, h0⟩ | ⟨g, cc, cur, hv, _⟩
  · have : xs = [] := List.eq_nil_of_length_eq_zero (by rw [h.1, h0, Nat.zero_mul])
    rw [this] at hj
    cases hj
  · simp only [Value.slice.injEq] at hv
    obtain ⟨rfl, _, _⟩ := hv
    exact ⟨_, rfl, h.cells (g := g) rfl j u hj⟩
theorem ownsRow_base {w : World} {base : Nat} {e : TypeId} {size : Nat} {v : Value} {n : Nat} {xs : List Value} (h : w.ownsRow base e size v n xs) : w.ownsRow 0 e size v n xs := by
  refine ⟨h.1, ?_⟩
  rcases h.2 with hv | ⟨g, cc, cur, hv, _, rest⟩
  · exact .inl hv
  · exact .inr ⟨g, cc, cur, hv, Nat.zero_le _, rest⟩
theorem RefAt.one {T : Nat → Prop} {w : World} {v : Value} {n : Nat} {room : Nat → Nat} {vs : Nat → List Int} {L : Nat → Value} (h : RefAt T w v n room vs L) : ∀ u ∈ (List.range (n * 2)).map (rcell room L), u.oneCell' = true := by
  intro u hu
  obtain ⟨k, hk, rfl⟩ := List.mem_map.1 hu
  rw [List.mem_range] at hk
  unfold rcell
  split
  · rfl
  · obtain ⟨pa, c, e, _⟩ := h.vals (k / 2) (by omega)
    rw [e]; rfl
theorem rcell_snoc (n rm : Nat) (room : Nat → Nat) (L : Nat → Value) (x : Value) : (List.range (n * 2)).map (rcell room L) ++ [.int .i64 (rm : Int), x] = (List.range ((n + 1) * 2)).map (rcell (fset room n rm) (fset L n x)) := by
  rw [show (n + 1) * 2 = n * 2 + 1 + 1 by omega, List.range_succ, List.range_succ, List.map_append, List.map_append, List.append_assoc]
  congr 1
  · refine List.map_congr_left fun k hk => ?_
    rw [List.mem_range] at hk
    unfold rcell
    rw [fset_other _ _ _ (by omega), fset_other _ _ _ (by omega)]
  · simp only [List.map_singleton, List.singleton_append, rcell]
    rw [if_pos (by omega), if_neg (by omega), show n * 2 / 2 = n by omega, show (n * 2 + 1) / 2 = n by omega, fset_same, fset_same]

set_option maxRecDepth 100000 in
set_option maxHeartbeats 1000000 in
theorem ref_make {T : Nat → Prop} {w : World} {v : Value} {n : Nat} {room : Nat → Nat} {vs : Nat → List Int} (h : Ref T w v n room vs) (hn : n < 1024) (rm : Nat) (h1 : 1 ≤ rm) (h2 : rm ≤ 1024) :
    Calls Try.prog 15 #[v, .int .i64 (rm : Int)] w fun r w' => ∃ v', r = .returned (.tuple #[v', .int .i64 (n : Int), .int .i64 0]) ∧ Ref (Nxt T w w') w' v' (n + 1) (fset room n rm) (fset vs n []) ∧ Below w.heap.size w w' := by
  obtain ⟨L, hA⟩ := h
  obtain ⟨pa, ca, rfl⟩ := ownsRow_len hA.row
  have hn' : ¬ (1024 : Int) ≤ (n : Int) := by omega
  obtain ⟨XS, hXS⟩ : ∃ XS, XS = (List.range (n * 2)).map (rcell room L) := ⟨_, rfl⟩
  have hrow : Hid (w.ownsRow 0 67 2 (.slice pa n ca) n XS) := by rw [hXS]; exact hA.row
  have hone : Hid (∀ u ∈ XS, u.oneCell' = true) := by rw [hXS]; exact hA.one
  have HX := Lib.hid hXS
  have HA := Lib.hid hA
  clear hA hXS
  obtain ⟨i67, hi, hz0, hz1, hz2⟩ := info_parts info67
  have HI := Lib.hid hi
  have HI0 := Lib.hid hz0
  have HI1 := Lib.hid hz1
  have HI2 := Lib.hid hz2
  clear hi hz0 hz1 hz2
  go_enter Try.func15, Try.ntmps15
  go_wp2_with (first
    | (at_builtin; refine wpList_append_any _ rfl (.tmp 18) (.tmp 19) 38 rfl w.heap.size 67 i67 (.agg #[.int .i64 0, .slice none 0 0]) 2 32 Try.underlying38 HI.out HI0.out HI1.out HI2.out rfl (by decide) _ 0 [] rfl (World.ownsRow_made w #[] 0 (Nat.le_refl _) (by decide) rfl)
        pa n ca XS rfl hrow.out.1 (ownsRow_news (hrow.out.alloc _)) hone.out (by unfold maxLen; omega) (by omega) (by rw [nblk_alloc]; omega) ?_; intro ap cp w1 hown hgrow hg
       simp only [Nat.zero_add, List.nil_append] at hown hg
       have hb1 : Below w.heap.size w w1 := Below.grown ((Below.refl _ w).alloc (Nat.le_refl _) _) hgrow (by rw [nblk_alloc]; omega) (fun k hk => by cases hk; exact Nat.le_refl _)
       have HO1 := Lib.hid hown
       have HB1 := Lib.hid hb1
       have HG1 := Lib.hid hg
       have hs1 := hb1.size
       clear hown hgrow hg hb1
       simp only [Nat.zero_add])
    | (at_builtin; refine wpList_append_any _ rfl (.tmp 20) (.tmp 23) 38 rfl w.heap.size 67 i67 (.agg #[.int .i64 0, .slice none 0 0]) 2 32 Try.underlying38 HI.out HI0.out HI1.out HI2.out rfl (by decide) _ n XS rfl (HO1.out.alloc _)
        (some ⟨w1.heap.size, 0, none⟩) 1 1 [.int .i64 (rm : Int), .slice none 0 0] rfl rfl (fun j u hj => ⟨_, rfl, World.news_of_block (cs := #[.int .i64 (rm : Int), .slice none 0 0]) (t := 67) (fr := (0, 0)) (heap_alloc_new w1 _) j u hj⟩) (by simp [Value.oneCell']) (by unfold maxLen; omega) (by omega) (by rw [nblk_alloc]; omega) ?_; intro ap2 cp2 w2 hown hgrow hg
       have hb2 : Below w.heap.size w w2 := Below.grown (HB1.out.alloc hs1 _) hgrow (by rw [nblk_alloc]; omega) (fun k hk => (HO1.out.lt k hk).1)
       have HO2 := Lib.hid hown
       have HB2 := Lib.hid hb2
       clear hown hgrow hg hb2))
  go_ret3
  refine ⟨_, rfl, ⟨fset L n (.slice none 0 0), ?_, ?_, ?_⟩, HB2.out⟩
  · rw [← rcell_snoc, ← HX.out]
    exact ownsRow_base HO2.out
  · intro g hg
    exact .inr (HO2.out.lt g hg)
  · intro j hj
    by_cases e : j = n
    · subst e
      simp only [fset_same]
      exact ⟨none, 0, rfl, Nat.le_refl _, fun k hk => absurd hk (Nat.not_lt_zero _), fun ad e => by cases e⟩
    · simp only [fset_other _ _ _ e]
      exact (HA.out.vals j (by omega)).keep (fun k h => .inl h) fun k _ hk => HB2.out.block k hk
end Go.Proofs.Ytnaioobndgflmaa
