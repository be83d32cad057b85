/- Plain laws on tagged words: how a number is put into a word and read out of it again, modulo 2^62. For every whole number. -/
import Derived.RowKit
import Derived.Laws.Bits64
import Derived.Laws.Bits64b
import Derived.Laws.BitsLemmas
namespace Go.Proofs.Ytojohijgacnljaa.Plain
open Go.RowKit

/-- The number from -2^61 to 2^61 - 1 that n is modulo 2^62. -/
def sw (n : Int) : Int := (n + 2305843009213693952) % 4611686018427387904 - 2305843009213693952
/-- The word of n. -/
def iw (n : Int) : Int := (n % 4611686018427387904) * 4
/-- The number of a word. -/
def nv (v : Int) : Int := sw (v / 4)

theorem wf_u64 {n : Int} (h : (Lit.int .u64 n).wf = true) : 0 ≤ n ∧ n < 18446744073709551616 := by
  simp [Lit.wf, IntKind.min, IntKind.max, IntKind.signed, IntKind.bits] at h
  omega
theorem wf_i64 {n : Int} (h : (Lit.int .i64 n).wf = true) : -9223372036854775808 ≤ n ∧ n < 9223372036854775808 := by
  simp [Lit.wf, IntKind.min, IntKind.max, IntKind.signed, IntKind.bits] at h
  omega

theorem and3 {v : Int} (h0 : 0 ≤ v) (h1 : v < 18446744073709551616) : Go.bits .and .u64 v 3 = v % 4 :=
  bits_mask .u64 64 (by decide) (fun n a b => by rw [IntKind.wrap_u64]; omega) 2 (by decide) v h0 (by simpa using h1)

theorem int_word (n : Int) : IntKind.u64.wrap ((IntKind.u64.wrap n) * 4) = iw n := by
  rw [IntKind.wrap_u64, IntKind.wrap_u64]; unfold iw; omega

theorem num_word {v : Int} (_h0 : 0 ≤ v) (_h1 : v < 18446744073709551616) (_h4 : v % 4 = 0) : wrap64 v / 4 = nv v := by
  unfold wrap64 nv sw; omega

theorem iw_bd (n : Int) : 0 ≤ iw n ∧ iw n < 18446744073709551616 := by unfold iw; omega
theorem iw_four (n : Int) : iw n % 4 = 0 := by unfold iw; omega
theorem nv_iw (n : Int) : nv (iw n) = sw n := by unfold nv iw sw; omega
theorem iw_sw (n : Int) : iw (sw n) = iw n := by unfold iw sw; omega
theorem sw_bd (n : Int) : -2305843009213693952 ≤ sw n ∧ sw n < 2305843009213693952 := by unfold sw; omega
theorem nv_bd (n : Int) : -2305843009213693952 ≤ nv n ∧ nv n < 2305843009213693952 := sw_bd _
theorem sw_of {n : Int} (h : -2305843009213693952 ≤ n) (h' : n < 2305843009213693952) : sw n = n := by unfold sw; omega
theorem iw_nv {v : Int} (h0 : 0 ≤ v) (h1 : v < 18446744073709551616) (h4 : v % 4 = 0) : iw (nv v) = v := by unfold iw nv sw; omega
theorem iw_wrap (n : Int) : iw (wrap64 n) = iw n := by unfold iw wrap64; omega
theorem iw_congr {a b : Int} (h : a % 4611686018427387904 = b % 4611686018427387904) : iw a = iw b := by unfold iw; rw [h]
theorem sw_mod (n : Int) : sw n % 4611686018427387904 = n % 4611686018427387904 := by unfold sw; omega
theorem wrap_of {n : Int} (h : -9223372036854775808 ≤ n) (h' : n < 9223372036854775808) : wrap64 n = n := by unfold wrap64; omega
theorem iw_add (a b c d : Int) (h : a % 4611686018427387904 = c % 4611686018427387904) (h' : b % 4611686018427387904 = d % 4611686018427387904) : iw (a + b) = iw (c + d) :=
  iw_congr (by rw [Int.add_emod, h, h', ← Int.add_emod])
theorem iw_sub (a b c d : Int) (h : a % 4611686018427387904 = c % 4611686018427387904) (h' : b % 4611686018427387904 = d % 4611686018427387904) : iw (a - b) = iw (c - d) :=
  iw_congr (by rw [Int.sub_emod, h, h', ← Int.sub_emod])
theorem iw_mul (a b c d : Int) (h : a % 4611686018427387904 = c % 4611686018427387904) (h' : b % 4611686018427387904 = d % 4611686018427387904) : iw (a * b) = iw (c * d) :=
  iw_congr (by rw [Int.mul_emod, h, h', ← Int.mul_emod])
theorem iw_wrap_neg (x y : Int) : iw (wrap64 (x + wrap64 (-y))) = iw (x - y) := by unfold iw wrap64; omega
theorem wrap_mod (n : Int) : wrap64 n % 4611686018427387904 = n % 4611686018427387904 := by unfold wrap64; omega
theorem iw_wrap_sub_mul (x q y : Int) : iw (wrap64 (x - wrap64 (wrap64 q * y))) = iw (x - q * y) := by
  rw [iw_wrap]
  refine iw_sub _ _ _ _ rfl ?_
  rw [wrap_mod, Int.mul_emod, wrap_mod, ← Int.mul_emod]

/-- the reference's way to a word. -/
theorem ref_int (n : Int) : IntKind.u64.wrap ((Int.tmod (IntKind.u64.wrap n) 4611686018427387904) * 4) = iw n := by
  rw [IntKind.wrap_u64, IntKind.wrap_u64, tmod_of_emod]; unfold iw; omega

/-- the operations on two numbers. -/
def opv (op x y : Int) : Int := if op = 1 then x - y else if op = 0 then x + y else if op = 2 then x * y else if op = 3 then x.tdiv y else x.tmod y
/-- what an operation on two words comes to. -/
def two (op a b : Int) : Int × Int :=
  if a % 4 = 0 ∧ b % 4 = 0 then (if nv b = 0 ∧ 3 ≤ op then (0, 10) else (iw (opv op (nv a) (nv b)), 0)) else (0, 8)

theorem tmod_eq (x y : Int) : x - (x.tdiv y) * y = x.tmod y := by
  have := Int.tmod_add_tdiv_mul x y; omega

/-- of which kind a word is. -/
def kd (v : Int) : Int := if v % 4 = 0 then 0 else if v % 4 = 1 then (if v ≤ 9 then 1 else 4) else if v / 4 ≤ 2147483647 then v % 4 else 4
/-- is a word below another one? -/
def ls (a b : Int) : Bool × Int := if a % 4 = 0 ∧ b % 4 = 0 then (decide (nv a < nv b), 0) else (false, 8)
/-- the word of an index and a tag. -/
def ix (i t : Int) : Int × Int := if 0 ≤ i ∧ i ≤ 2147483647 then (i * 4 + t, 0) else (0, 1)

theorem or_tag {i t : Int} (h0 : 0 ≤ i) (h1 : i ≤ 2147483647) (ht : 0 ≤ t ∧ t < 4) : Go.bits .or .u64 (IntKind.u64.wrap (IntKind.u64.wrap i * 4)) t = i * 4 + t := by
  have e : IntKind.u64.wrap (IntKind.u64.wrap i * 4) = i * 4 := by rw [IntKind.wrap_u64, IntKind.wrap_u64]; omega
  rw [e]
  exact bits_join .u64 64 (by decide) (fun n a b => by rw [IntKind.wrap_u64]; omega) 2 (i * 4) t (by omega) (by omega) (by simp; omega) ht.1 (by simp; omega) (by simp; omega)

theorem two_zero {op a b : Int} (ha : a % 4 = 0) (hb : b % 4 = 0) (h : nv b = 0) (hop : 3 ≤ op) : two op a b = (0, 10) := by
  unfold two; rw [if_pos ⟨ha, hb⟩, if_pos ⟨h, hop⟩]
theorem two_some {op a b : Int} (ha : a % 4 = 0) (hb : b % 4 = 0) (h : ¬(nv b = 0 ∧ 3 ≤ op)) : two op a b = (iw (opv op (nv a) (nv b)), 0) := by
  unfold two; rw [if_pos ⟨ha, hb⟩, if_neg h]
theorem two_kind {op a b : Int} (h : ¬(a % 4 = 0 ∧ b % 4 = 0)) : two op a b = (0, 8) := by unfold two; rw [if_neg h]
theorem two_both {op a b : Int} (ha : a % 4 = 0) (hb : b % 4 = 0) : two op a b = if nv b = 0 ∧ 3 ≤ op then (0, 10) else (iw (opv op (nv a) (nv b)), 0) := by unfold two; rw [if_pos ⟨ha, hb⟩]
theorem opv_add (x y : Int) : opv 0 x y = x + y := rfl
theorem opv_sub (x y : Int) : opv 1 x y = x - y := rfl
theorem opv_mul (x y : Int) : opv 2 x y = x * y := rfl
theorem opv_div (x y : Int) : opv 3 x y = x.tdiv y := rfl
theorem opv_mod (x y : Int) : opv 4 x y = x.tmod y := rfl

theorem tmod_abs (x y : Int) (h : y ≠ 0) : (0 ≤ y → -y < x.tmod y ∧ x.tmod y < y) ∧ (y ≤ 0 → y < x.tmod y ∧ x.tmod y < -y) := by
  constructor
  · intro p
    exact ⟨Int.lt_tmod_of_pos x (by omega), Int.tmod_lt_of_pos x (by omega)⟩
  · intro p
    have e : x.tmod y = x.tmod (-y) := (Int.tmod_neg x y).symm
    have a := Int.lt_tmod_of_pos x (b := -y) (by omega)
    have b := Int.tmod_lt_of_pos x (b := -y) (by omega)
    rw [e]; omega
theorem tmod_sign (x y : Int) : (0 ≤ x → 0 ≤ x.tmod y) ∧ (x ≤ 0 → x.tmod y ≤ 0) := by
  constructor
  · intro p; exact Int.tmod_nonneg y p
  · intro p
    have e := Int.tmod_nonneg y (a := -x) (by omega)
    rw [Int.neg_tmod] at e
    omega

end Go.Proofs.Ytojohijgacnljaa.Plain
