/- Mailboxes in memory: one ring turned, the others as they were; a ring grows. For every heap. -/
import Derived.Test.YtnaioobndgflmaaGrow
namespace Go.Proofs.Ytnaioobndgflmaa
open Go Go.RowKit Go.Deep
set_option linter.unusedVariables false

/-- a function turned at one place. -/
def fset {α : Type} (f : Nat → α) (i : Nat) (x : α) : Nat → α := fun j => if j = i then x else f j
theorem fset_same {α : Type} (f : Nat → α) (i : Nat) (x : α) : fset f i x i = x := by simp [fset]
theorem fset_other {α : Type} (f : Nat → α) (i : Nat) (x : α) {j : Nat} (h : j ≠ i) : fset f i x j = f j := by simp [fset, h]
/-- the blocks that may be used behind a step. -/
def Nxt (S : Nat → Prop) (w w' : World) (k : Nat) : Prop := S k ∨ (w.heap.size ≤ k ∧ k < w'.heap.size)

theorem rowIs_ne {w : World} {b b' : Nat} {t t' : TypeId} {n n' : Nat} {f f' : Nat → Value} (h : w.rowIs b t n f) (h' : w.rowIs b' t' n' f') (ht : t ≠ t') : b ≠ b' := by
  rintro rfl
  obtain ⟨c, hc, _⟩ := h
  obtain ⟨c', hc', _⟩ := h'
  rw [hc] at hc'
  simp only [Option.some.injEq, Obj.cells.injEq] at hc'
  exact ht hc'.2.1
theorem own_heap {w : World} {base : Nat} {e : TypeId} {size : Nat} {v : Value} {n : Nat} {xs : List Value} (h : w.ownsRow base e size v n xs) {g : Nat} (hg : v.ownBlock = some g) : ∃ cur, w.heap[g]? = some (.cells cur e (0, 0)) := by
  rcases h.2 with ⟨rfl, _⟩ | ⟨g', cap, cur, rfl, _, hh, _⟩
  · simp [Value.ownBlock] at hg
  · simp [Value.ownBlock] at hg; subst hg; exact ⟨cur, hh⟩
theorem own_ne {w : World} {base : Nat} {e : TypeId} {size : Nat} {v : Value} {n m : Nat} {xs : List Value} {b : Nat} {t : TypeId} {f : Nat → Value} (h : w.ownsRow base e size v n xs) (h' : w.rowIs b t m f) (ht : e ≠ t) : v.ownBlock ≠ some b := by
  intro hg
  obtain ⟨cur, hc⟩ := own_heap h hg
  obtain ⟨c, hc', _⟩ := h'
  rw [hc] at hc'
  simp only [Option.some.injEq, Obj.cells.injEq] at hc'
  exact ht hc'.2.1
theorem ownsRow_keep {w w' : World} {base : Nat} {e : TypeId} {size : Nat} {v : Value} {n : Nat} {xs : List Value} (h : w.ownsRow base e size v n xs) (hk : ∀ k, v.ownBlock = some k → w'.heap[k]? = w.heap[k]?) : w'.ownsRow base e size v n xs := by
  refine ⟨h.1, ?_⟩
  rcases h.2 with hn | ⟨g, cap, cur, rfl, hb, hgg, rest⟩
  · exact .inl hn
  · exact .inr ⟨g, cap, cur, rfl, hb, by rw [hk g rfl]; exact hgg, rest⟩
theorem Vrow.row {w : World} {V : Value} {cap g : Nat} {y : Nat → Value} (h : Vrow w V cap y) (hg : V.ownBlock = some g) : w.rowIs g 33 cap y := by
  rcases h with ⟨_, rfl⟩ | ⟨_, g', rfl, h⟩
  · simp [Value.ownBlock] at hg
  · simp [Value.ownBlock] at hg; subst hg; exact h
theorem Vrow.keep {w w' : World} {V : Value} {cap : Nat} {y : Nat → Value} (h : Vrow w V cap y) (hk : ∀ k, V.ownBlock = some k → w'.heap[k]? = w.heap[k]?) : Vrow w' V cap y := by
  rcases h with h | ⟨hc, g', rfl, h⟩
  · exact .inl h
  · exact .inr ⟨hc, g', rfl, h.of_block (hk _ rfl)⟩
theorem Ring.keep {S S' : Nat → Prop} {w w' : World} {R room : Nat} {vs : List Int} {V : Value} {cap first : Nat} {y : Nat → Value} (h : Ring S w R room vs V cap first y) (hS : ∀ k, S k → S' k) (hR : w'.heap[R]? = w.heap[R]?) (hV : ∀ k, V.ownBlock = some k → w'.heap[k]? = w.heap[k]?) : Ring S' w' R room vs V cap first y :=
  ⟨hS _ h.mine, h.head.of_block hR, h.row.keep hV, fun g hg => hS _ (h.own g hg), h.len, h.fits, h.one, h.most, h.frst, h.at_, h.cells⟩

/-- what a ring's turn may touch. -/
def Touch (R : Nat) (V : Value) (k : Nat) : Prop := k = R ∨ V.ownBlock = some k

theorem BxAt.step {S S' : Nat → Prop} {w w' : World} {B n : Nat} {room : Nat → Nat} {vs : Nat → List Int} {A Rm : Value} {rb : Nat → Nat} {V : Nat → Value} {cap first : Nat → Nat} {y : Nat → Nat → Value}
    (h : BxAt S w B n room vs A Rm rb V cap first y) {i : Nat} (hi : i < n) (hS : ∀ k, S k → S' k) (hf : Frm (Touch (rb i) (V i)) w w') {vs' : List Int} {V' : Value} {cap' first' : Nat} {y' : Nat → Value}
    (hr : Ring S' w' (rb i) (room i) vs' V' cap' first' y') (hV : ∀ g, V'.ownBlock = some g → (V i).ownBlock = some g ∨ w.heap.size ≤ g) :
    BxAt S' w' B n room (fset vs i vs') A Rm rb (fset V i V') (fset cap i cap') (fset first i first') (fset y i y') := by
  have hri := (h.ring i hi).head
  have hvi : ∀ g, (V i).ownBlock = some g → w.rowIs g 33 (cap i) (y i) := fun g hg => (h.ring i hi).row.row hg
  have hb : ∀ k t m f, w.rowIs k t m f → t ≠ 61 → t ≠ 33 → w'.heap[k]? = w.heap[k]? := fun k t m f hk h1 h2 => hf.block k hk.lt (by
    rintro (rfl | hg)
    · exact rowIs_ne hk hri h1 rfl
    · exact rowIs_ne hk (hvi _ hg) h2 rfl)
  have ho : ∀ (e : TypeId) (v : Value) (m : Nat) (xs : List Value), w.ownsRow 0 e 1 v m xs → e ≠ 61 → e ≠ 33 → ∀ k, v.ownBlock = some k → w'.heap[k]? = w.heap[k]? := fun e v m xs hv h1 h2 k hk => by
    obtain ⟨cur, hc⟩ := own_heap hv hk
    refine hf.block k (lt_of_block hc) ?_
    rintro (rfl | hg)
    · exact own_ne hv hri h1 hk
    · exact own_ne hv (hvi _ hg) h2 hk
  have hvlt : ∀ j, j < n → ∀ g, (V j).ownBlock = some g → g < w.heap.size := fun j hj g hg => ((h.ring j hj).row.row hg).lt
  refine ⟨hS _ h.mine, h.many, h.head.of_block (hb _ _ _ _ h.head (by decide) (by decide)), ownsRow_keep h.all (ho _ _ _ _ h.all (by decide) (by decide)), ownsRow_keep h.rooms (ho _ _ _ _ h.rooms (by decide) (by decide)),
    fun g hg => hS _ (h.ownA g hg), fun g hg => hS _ (h.ownR g hg), h.apart, ?_, ?_⟩
  · intro a b g ha hb' h1 h2
    by_cases ea : a = i
    · by_cases eb : b = i
      · rw [ea, eb]
      · subst ea
        rw [fset_same] at h1
        rw [fset_other _ _ _ eb] at h2
        rcases hV g h1 with h3 | h3
        · exact h.apartV a b g hi hb' h3 h2
        · exact absurd (hvlt b hb' g h2) (by omega)
    · by_cases eb : b = i
      · subst eb
        rw [fset_same] at h2
        rw [fset_other _ _ _ ea] at h1
        rcases hV g h2 with h3 | h3
        · exact h.apartV a b g ha hi h1 h3
        · exact absurd (hvlt a ha g h1) (by omega)
      · rw [fset_other _ _ _ ea] at h1
        rw [fset_other _ _ _ eb] at h2
        exact h.apartV a b g ha hb' h1 h2
  · intro j hj
    by_cases e : j = i
    · subst e
      simp only [fset_same]
      exact hr
    · simp only [fset_other _ _ _ e]
      have hrj := h.ring j hj
      refine hrj.keep hS (hf.block _ hrj.head.lt ?_) fun k hk => hf.block _ (hvlt j hj k hk) ?_
      · rintro (he | hg)
        · exact e (h.apart _ _ hj hi he)
        · exact rowIs_ne hrj.head (hvi _ hg) (by decide) rfl
      · rintro (rfl | hg)
        · exact rowIs_ne (hrj.row.row hk) hri (by decide) rfl
        · exact e (h.apartV _ _ k hj hi hk hg)

/-- nothing of it touched. -/
theorem BxAt.keep {S S' : Nat → Prop} {w w' : World} {B n : Nat} {room : Nat → Nat} {vs : Nat → List Int} {A Rm : Value} {rb : Nat → Nat} {V : Nat → Value} {cap first : Nat → Nat} {y : Nat → Nat → Value}
    (h : BxAt S w B n room vs A Rm rb V cap first y) (hS : ∀ k, S k → S' k) (hf : ∀ k, k < w.heap.size → S k → w'.heap[k]? = w.heap[k]?) : BxAt S' w' B n room vs A Rm rb V cap first y :=
  ⟨hS _ h.mine, h.many, h.head.of_block (hf _ h.head.lt h.mine), ownsRow_keep h.all fun k hk => hf k (h.all.lt k hk).2 (h.ownA k hk), ownsRow_keep h.rooms fun k hk => hf k (h.rooms.lt k hk).2 (h.ownR k hk),
    fun g hg => hS _ (h.ownA g hg), fun g hg => hS _ (h.ownR g hg), h.apart, h.apartV, fun j hj => (h.ring j hj).keep hS (hf _ (h.ring j hj).head.lt (h.ring j hj).mine) fun k hk => hf k ((h.ring j hj).row.row hk).lt ((h.ring j hj).own k hk)⟩
theorem Bx.keep {S S' : Nat → Prop} {w w' : World} {B n : Nat} {room : Nat → Nat} {vs : Nat → List Int} (h : Bx S w B n room vs) (hS : ∀ k, S k → S' k) (hf : ∀ k, k < w.heap.size → S k → w'.heap[k]? = w.heap[k]?) : Bx S' w' B n room vs := by
  obtain ⟨A, Rm, rb, V, cap, first, y, h⟩ := h
  exact ⟨A, Rm, rb, V, cap, first, y, h.keep hS hf⟩
theorem Bx.below {S : Nat → Prop} {w w' : World} {B n : Nat} {room : Nat → Nat} {vs : Nat → List Int} (h : Bx S w B n room vs) (hb : Below w.heap.size w w') : Bx S w' B n room vs := h.keep (fun _ h => h) fun k hk _ => hb.block k hk
theorem Bx.drewN {S : Nat → Prop} {w : World} {B n : Nat} {room : Nat → Nat} {vs : Nat → List Int} (h : Bx S w B n room vs) (m : Nat) : Bx S (w.drewN m) B n room vs := h.keep (fun _ h => h) fun k hk _ => rfl
theorem fset_self {α : Type} (f : Nat → α) (i : Nat) : fset f i (f i) = f := by
  funext j
  by_cases h : j = i
  · subst h; simp [fset]
  · simp [fset, h]

theorem grow_bx {S : Nat → Prop} {w : World} {B n : Nat} {room : Nat → Nat} {vs : Nat → List Int} {A Rm : Value} {rb : Nat → Nat} {V : Nat → Value} {cap first : Nat → Nat} {y : Nat → Nat → Value}
    (h : BxAt S w B n room vs A Rm rb V cap first y) {i : Nat} (hi : i < n) (hl : (vs i).length < room i) :
    Calls Try.prog 23 #[ptr (rb i), .int .i64 (room i : Int)] w fun r w' => r = .returned (.tuple #[]) ∧ ∃ (V' : Nat → Value) (cap' first' : Nat → Nat) (y' : Nat → Nat → Value), (vs i).length < cap' i ∧ BxAt (Nxt S w w') w' B n room vs A Rm rb V' cap' first' y' ∧ Frm (· = rb i) w w' := by
  have hr := h.ring i hi
  by_cases hc : (vs i).length < cap i
  · rcases hr.row with ⟨h0, _⟩ | ⟨h0, g, hV, hy⟩
    · omega
    · refine (grow_room (rb i) (cap i) (vs i).length (room i) (some ⟨g, 0, none⟩) w (by rw [← hV]; exact hr.head.cell (by omega)) (hr.head.cell (by omega)) hc).mono ?_
      rintro r w' ⟨rfl, m, rfl⟩
      exact ⟨rfl, V, cap, first, y, hc, h.keep (fun _ h => .inl h) fun _ _ _ => rfl, (Frm.refl _ w).drewN m⟩
  · have hle := hr.len
    have hcv : cap i = (vs i).length := by omega
    rcases hr.row with ⟨h0, hV⟩ | ⟨h0, g, hV, hy⟩
    · have hf0 : first i = 0 := by rcases hr.frst with h1 | h1 <;> omega
      refine (grow_nil (rb i) (vs i).length (room i) (y i) w (by omega) (by have := hr.head; rw [hV, hf0] at this; exact this) (by omega) hr.most).mono ?_
      rintro r w' ⟨rfl, N, hN1, hN2, hR, hG, hlt, hF⟩
      have hs := h.step (S' := Nxt S w w') (vs' := vs i) hi (fun _ h => .inl h) (hF.mono fun k _ hk => .inl hk) (V' := .slice (some ⟨w.heap.size, 0, none⟩) N N) (cap' := N) (first' := 0) (y' := ynew (y i) 0 0)
        ⟨.inl hr.mine, hR, .inr ⟨by omega, _, rfl, hG⟩, fun g hg => by simp [Value.ownBlock] at hg; subst hg; exact .inr ⟨Nat.le_refl _, hlt⟩, by omega, hN2, hr.one, hr.most, .inl (by omega), fun j hj => by omega, fun j hj => ⟨0, by simp [ynew]⟩⟩
        (fun g hg => by simp [Value.ownBlock] at hg; subst hg; exact .inr (Nat.le_refl _))
      rw [fset_self] at hs
      exact ⟨rfl, _, _, _, _, by rw [fset_same]; omega, hs, hF⟩
    · have hf0 : first i < cap i := by rcases hr.frst with h1 | h1 <;> omega
      refine (grow_more (rb i) (cap i) (first i) (room i) g (y i) w (by have := hr.head; rw [hV, ← hcv] at this; exact this) hy hf0 (by omega) hr.most hr.cells).mono ?_
      rintro r w' ⟨rfl, N, hN1, hN2, hR, hG, hlt, hF⟩
      have hs := h.step (S' := Nxt S w w') (vs' := vs i) hi (fun _ h => .inl h) (hF.mono fun k _ hk => .inl hk) (V' := .slice (some ⟨w.heap.size, 0, none⟩) N N) (cap' := N) (first' := 0) (y' := ynew (y i) (first i) (cap i))
        ⟨.inl hr.mine, by rw [← hcv]; exact hR, .inr ⟨by omega, _, rfl, hG⟩, fun g hg => by simp [Value.ownBlock] at hg; subst hg; exact .inr ⟨Nat.le_refl _, hlt⟩, by omega, hN2, hr.one, hr.most, .inl (by omega), fun j hj => by
            rw [Nat.zero_add, Nat.mod_eq_of_lt (by omega), ynew, if_pos (by omega)]
            exact hr.at_ j hj, fun j hj => by
            unfold ynew
            split
            · exact hr.cells _ (Nat.mod_lt _ (by omega))
            · exact ⟨0, rfl⟩⟩
        (fun g hg => by simp [Value.ownBlock] at hg; subst hg; exact .inr (Nat.le_refl _))
      rw [fset_self] at hs
      exact ⟨rfl, _, _, _, _, by rw [fset_same]; omega, hs, hF⟩
end Go.Proofs.Ytnaioobndgflmaa
