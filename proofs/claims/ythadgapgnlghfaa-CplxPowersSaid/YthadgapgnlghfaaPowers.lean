/- CplxPowers: powers of any number, and any polynomial's value, are the document's. The walk, for every bits and every list. -/
import Derived.Test.YthadgapgnlghfaaRfold
import Derived.Deep.AppendLies
import Derived.OwnWalk
import Derived.Deep.OwnRows
namespace Go.Proofs.Ythadgapgnlghfaa
open Go Go.RowKit Go.Proofs.Ythadgapgnlghfaa.Dbl

/-- the program's list, the document's list, as they lie in memory and as numbers. -/
def XS (us vs : Nat → Int) (n : Nat) : List Value := (List.range n).map fun i => .complex .f64 (cn (us i).toNat) (cn (vs i).toNat)
def YS (us vs : Nat → Int) (n : Nat) : List Value := (List.range n).flatMap fun i => [.float .f64 (us i).toNat, .float .f64 (vs i).toNat]
def LX (us vs : Nat → Int) (n : Nat) : List (Nat × Nat) := (List.range n).map fun i => (cn (us i).toNat, cn (vs i).toNat)
def LY (us vs : Nat → Int) (n : Nat) : List (Nat × Nat) := (List.range n).map fun i => ((us i).toNat, (vs i).toNat)
theorem XS_succ (us vs : Nat → Int) (n : Nat) : XS us vs (n + 1) = XS us vs n ++ [.complex .f64 (cn (us n).toNat) (cn (vs n).toNat)] := by
  simp [XS, List.range_succ]
theorem YS_succ (us vs : Nat → Int) (n : Nat) : YS us vs (n + 1) = YS us vs n ++ [.float .f64 (us n).toNat, .float .f64 (vs n).toNat] := by
  simp [YS, List.range_succ]
theorem XS_get (us vs : Nat → Int) {n i : Nat} (h : i < n) : (XS us vs n)[i]? = some (.complex .f64 (cn (us i).toNat) (cn (vs i).toNat)) := by
  simp [XS, h]
theorem YS_len (us vs : Nat → Int) (n : Nat) : (YS us vs n).length = n * 2 := by
  induction n with
  | zero => rfl
  | succ n ih => rw [YS_succ, List.length_append, ih]; simp; omega
theorem YS_get (us vs : Nat → Int) {n i : Nat} (h : i < n) : (YS us vs n)[i * 2]? = some (.float .f64 (us i).toNat) ∧ (YS us vs n)[i * 2 + 1]? = some (.float .f64 (vs i).toNat) := by
  induction n with
  | zero => omega
  | succ n ih =>
    rw [YS_succ]
    by_cases e : i = n
    · subst e
      have hl := YS_len us vs i
      constructor
      · rw [List.getElem?_append_right (by omega), hl]; simp
      · rw [List.getElem?_append_right (by omega), hl]; simp [show i * 2 + 1 - i * 2 = 1 by omega]
    · obtain ⟨a, b⟩ := ih (by omega)
      have hl := YS_len us vs n
      exact ⟨by rw [List.getElem?_append_left (by omega)]; exact a, by rw [List.getElem?_append_left (by omega)]; exact b⟩

theorem FoldR.alike {a b a' b' : Nat} (ha : AL a a') (hb : AL b b') (us vs : Nat → Int) : ∀ (l : List Nat) (re im re' im' : Nat), FoldR a b (l.map fun i => (cn (us i).toNat, cn (vs i).toNat)) re im → FoldR a' b' (l.map fun i => ((us i).toNat, (vs i).toNat)) re' im' → AL re re' ∧ AL im im'
  | [], re, im, re', im', h, h' => by
    obtain ⟨rfl, rfl⟩ := h
    obtain ⟨rfl, rfl⟩ := h'
    exact ⟨AL.refl _, AL.refl _⟩
  | i :: l, re, im, re', im', h, h' => by
    obtain ⟨p, q, r, s, h1, h2, h3, h4⟩ := h
    obtain ⟨p', q', r', s', g1, g2, g3, g4⟩ := h'
    obtain ⟨ep, eq⟩ := FoldR.alike ha hb us vs l _ _ _ _ h1 g1
    obtain ⟨er, es⟩ := MulR.alike ep eq ha hb h2 g2
    exact ⟨FR.alike er (al_cn _) h3 g3, FR.alike es (al_cn _) h4 g4⟩
theorem PowR.alike {a b a' b' : Nat} (ha : AL a a') (hb : AL b b') : ∀ (n re im re' im' : Nat), PowR a b n re im → PowR a' b' n re' im' → AL re re' ∧ AL im im'
  | 0, re, im, re', im', h, h' => by
    obtain ⟨rfl, rfl⟩ := h
    obtain ⟨rfl, rfl⟩ := h'
    exact ⟨AL.refl _, AL.refl _⟩
  | n + 1, re, im, re', im', h, h' => by
    obtain ⟨p, q, h1, h2⟩ := h
    obtain ⟨p', q', g1, g2⟩ := h'
    obtain ⟨ep, eq⟩ := PowR.alike ha hb n _ _ _ _ h1 g1
    exact MulR.alike ep eq ha hb h2 g2

theorem ownsRow_below {w w1 : World} {base : Nat} {e : TypeId} {size : Nat} {v : Value} {n : Nat} {xs : List Value} (h : w.ownsRow base e size v n xs) (hb : Below w.heap.size w w1) : w1.ownsRow base e size v n xs := by
  obtain ⟨h1, h2⟩ := h
  refine ⟨h1, ?_⟩
  rcases h2 with h2 | ⟨g, cap, cur, hv, hg, hh, r⟩
  · exact Or.inl h2
  · exact Or.inr ⟨g, cap, cur, hv, hg, by rw [hb.block g (Array.getElem?_eq_some_iff.1 hh).1]; exact hh, r⟩

/-- the two lists after k rounds; w0: the world ahead of the loop. -/
structure PL (w0 : World) (us vs : Nat → Int) (k : Nat) (xv yv : Value) (wr : World) : Prop where
  hx : wr.ownsRow w0.heap.size 23 1 xv k (XS us vs k)
  hy : wr.ownsRow w0.heap.size 42 2 yv k (YS us vs k)
  ne : xv.ownBlock = none ∨ xv.ownBlock ≠ yv.ownBlock
  bel : Below w0.heap.size w0 wr
theorem PL.start (w0 : World) (us vs : Nat → Int) : PL w0 us vs 0 (.slice none 0 0) (.slice none 0 0) w0 :=
  ⟨World.ownsRow_nil _ _ _ _, World.ownsRow_nil _ _ _ _, Or.inl rfl, Below.refl _ _⟩
theorem PL.below {w0 wr w1 : World} {us vs : Nat → Int} {k : Nat} {xv yv : Value} (h : PL w0 us vs k xv yv wr) (hb : Below wr.heap.size wr w1) : PL w0 us vs k xv yv w1 :=
  ⟨ownsRow_below h.hx hb, ownsRow_below h.hy hb, h.ne, h.bel.trans (hb.mono h.bel.size)⟩
theorem PL.alloc {w0 wr : World} {us vs : Nat → Int} {k : Nat} {xv yv : Value} (h : PL w0 us vs k xv yv wr) (o : Obj) : PL w0 us vs k xv yv (wr.alloc o) :=
  h.below ((Below.refl _ _).alloc (Nat.le_refl _) o)
/-- the program's list has grown, the document's not yet. -/
structure PM (w0 : World) (us vs : Nat → Int) (k : Nat) (xv yv : Value) (wr : World) : Prop where
  hx : wr.ownsRow w0.heap.size 23 1 xv (k + 1) (XS us vs (k + 1))
  hy : wr.ownsRow w0.heap.size 42 2 yv k (YS us vs k)
  ne : xv.ownBlock = none ∨ xv.ownBlock ≠ yv.ownBlock
  bel : Below w0.heap.size w0 wr
theorem PM.below {w0 wr w1 : World} {us vs : Nat → Int} {k : Nat} {xv yv : Value} (h : PM w0 us vs k xv yv wr) (hb : Below wr.heap.size wr w1) : PM w0 us vs k xv yv w1 :=
  ⟨ownsRow_below h.hx hb, ownsRow_below h.hy hb, h.ne, h.bel.trans (hb.mono h.bel.size)⟩
theorem PM.alloc {w0 wr : World} {us vs : Nat → Int} {k : Nat} {xv yv : Value} (h : PM w0 us vs k xv yv wr) (o : Obj) : PM w0 us vs k xv yv (wr.alloc o) :=
  h.below ((Below.refl _ _).alloc (Nat.le_refl _) o)

theorem PL.grow {w0 wr w2 : World} {us vs : Nat → Int} {k g cap : Nat} {xv yv : Value} (h : PL w0 us vs k xv yv wr)
    (hown : w2.ownsRow w0.heap.size 23 1 (.slice (some ⟨g, 0, none⟩) (k + 1) cap) (k + 1) (XS us vs k ++ [.complex .f64 (cn (us k).toNat) (cn (vs k).toNat)]))
    (hg : wr.grownBy w2 xv.ownBlock) (hw : xv.ownBlock = some g ∨ g = wr.heap.size) : PM w0 us vs k (.slice (some ⟨g, 0, none⟩) (k + 1) cap) yv w2 := by
  refine ⟨by rw [XS_succ]; exact hown, h.hy.kept hg ?_, Or.inr ?_, h.bel.grown hg h.bel.size (fun b hb => (h.hx.lt b hb).1)⟩
  · cases hy : yv.ownBlock with
    | none => exact Or.inl rfl
    | some b =>
      right
      rcases h.ne with e | e
      · rw [e]; simp
      · rw [hy] at e; exact fun q => e q.symm
  · intro e
    have e' : yv.ownBlock = some g := e.symm
    have hl := h.hy.lt g e'
    rcases hw with q | q
    · rcases h.ne with n | n
      · rw [n] at q; cases q
      · exact n (q.trans e'.symm)
    · omega
theorem PM.grow {w0 wr w2 : World} {us vs : Nat → Int} {k g cap : Nat} {xv yv : Value} (h : PM w0 us vs k xv yv wr)
    (hown : w2.ownsRow w0.heap.size 42 2 (.slice (some ⟨g, 0, none⟩) (k + 1) cap) (k + 1) (YS us vs k ++ [.float .f64 (us k).toNat, .float .f64 (vs k).toNat]))
    (hg : wr.grownBy w2 yv.ownBlock) (hw : yv.ownBlock = some g ∨ g = wr.heap.size) : PL w0 us vs (k + 1) xv (.slice (some ⟨g, 0, none⟩) (k + 1) cap) w2 := by
  refine ⟨h.hx.kept hg ?_, by rw [YS_succ]; exact hown, ?_, h.bel.grown hg h.bel.size (fun b hb => (h.hy.lt b hb).1)⟩
  · exact h.ne
  · cases hx : xv.ownBlock with
    | none => exact Or.inl rfl
    | some b =>
      right
      intro e
      have e' : b = g := by simpa [Value.ownBlock] using e
      subst e'
      have hl := h.hx.lt b hx
      rcases hw with q | q
      · rcases h.ne with n | n
        · rw [n] at hx; cases hx
        · exact n (hx.trans q.symm)
      · omega

theorem fold_own {B n : Nat} {xv : Value} {us vs : Nat → Int} {w : World} (a b : Nat) (hm : n ≤ 1000) (h : w.ownsRow B 23 1 xv n (XS us vs n)) : Calls Try.prog 29 #[xv, .complex .f64 a b] w (RetC (FoldR a b (LX us vs n)) w) := by
  by_cases h0 : n = 0
  · subst h0
    rcases h.2 with ⟨rfl, _⟩ | ⟨g, cap, cur, rfl, _⟩
    · exact fold_nil _ _ _ _ w
    · exact fold_nil _ _ _ _ w
  · obtain ⟨g, cap, rfl, _, _⟩ := h.form (by omega)
    refine fold_c (LX us vs n) n cap g 0 a b w (by simp [LX]) hm (by omega) ?_
    intro i hi
    have hin : i < n := by simpa [LX] using hi
    rw [Nat.zero_add, h.cellAt i (by omega), XS_get us vs hin]
    simp [LX]
theorem rfold_own {B n : Nat} {yv : Value} {us vs : Nat → Int} {w : World} (a b : Nat) (hm : n ≤ 1000) (h : w.ownsRow B 42 2 yv n (YS us vs n)) : Calls Try.prog 30 #[yv, zv a b] w (RetZ (FoldR a b (LY us vs n)) w) := by
  by_cases h0 : n = 0
  · subst h0
    rcases h.2 with ⟨rfl, _⟩ | ⟨g, cap, cur, rfl, _⟩
    · exact rfold_nil _ _ _ _ w
    · exact rfold_nil _ _ _ _ w
  · obtain ⟨g, cap, rfl, _, hg⟩ := h.form (by omega)
    refine rfold_c (LY us vs n) n cap g 0 a b w (by simp [LY]) hm hg ?_
    intro i hi
    have hin : i < n := by simpa [LY] using hi
    obtain ⟨ea, eb⟩ := YS_get us vs hin
    rw [Nat.zero_add, h.cellAt (i * 2) (by omega), h.cellAt (i * 2 + 1) (by omega), ea, eb]
    simp [LY]
end Go.Proofs.Ythadgapgnlghfaa
