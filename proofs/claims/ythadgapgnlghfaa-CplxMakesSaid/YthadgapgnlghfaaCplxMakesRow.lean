/- CplxMakes: numbers of any two integers, of any bits, their bits, and whether two are the same, are the document's. Proved for every input: no condition. -/
import Derived.Test.YthadgapgnlghfaaRows
import Derived.Test.YthadgapgnlghfaaMakes
import Derived.WalkKit
import Derived.ProofKit
import Derived.OpenShut
import Derived.ShutString
import Derived.ChangeOld
import Derived.Below
import Derived.SizedLaws
import Derived.Lib.SmallJoins
namespace Go.Proofs.Ythadgapgnlghfaa.rowCplxMakes
open Go.ChangeShapes Go.WideShapes Go.ChangeAt Go.RowKit Go.Joins
set_option linter.unusedVariables false
theorem own : ownKnob Try.prog.godebug = none := by kernel_rfl
theorem cells36 : Try.prog.cellsOf 36 = 2 := by kernel_rfl
theorem shutZ {H : Type} {enc : TypeId × Value → H} {W' : World} {base : Nat} {sp : Nat → Bool} {a b : Int} (wa : (Lit.int .u64 a).wf = true) (wb : (Lit.int .u64 b).wf = true) :
    DataW.Trod enc Try.prog W' base sp true 36 (.agg #[.int .u64 a, .int .u64 b]) (.agg [.lit (.int .u64 a), .lit (.int .u64 b)]) [] :=
  shut_agg2 (y0 := (.lit (.int .u64 a), [])) (y1 := (.lit (.int .u64 b), [])) Try.underlying36 (by kernel_rfl) cells36 ⟨1, by simp [DataW.trod, Try.underlying34, wa]⟩ ⟨1, by simp [DataW.trod, Try.underlying34, wb]⟩
set_option maxRecDepth 100000 in
theorem lifted (os : Os) (started : os.Started) (H : Type) (enc : TypeId × Value → H) :
    ReturnsInHanded {} Try.checked os 8 .any (Rows.cplxMakesSpec.pre6 enc Try.prog Try.f8 Rows.cplxMakesRow.domain false) (Rows.cplxMakesSpec.post enc Try.prog Try.f8 false true false false) := by
  refine returnsInHanded_of_change_sized (C := Try.checked) own started (by kernel_rfl) Try.func8
    (ChangeSpec.witness6 (enc := enc) (C := Try.checked) false ⟨#[], #[.int .i64 0, .int .i64 0, .agg #[.int .u64 0, .int .u64 0], .agg #[.int .u64 0, .int .u64 0]], []⟩ 8 (by kernel_rfl) (by kernel_rfl) (by kernel_rfl) (by kernel_rfl)) ?_
  intro W base args ds gs before hval0 hW hcnd hsz0 _
  have hval : ∀ (j : Nat) t v, Try.f8.params[j]? = some t → args[j]? = some v → Value.okWide Try.prog W .any base t v := hval0
  have hW' := hW
  obtain ⟨p, q, hA0, hV, rfl, hfz, hnd⟩ := hW
  have hA : DataW.TrodAll enc Try.prog W 0 (fun _ => true) true Try.f8.params.toList args.toList ds p := hA0
  rw [Try.params8] at hA hval
  obtain ⟨v0, vs0, d0, ds0, p0, q0, hargs, rfl, rfl, h0, r0⟩ := trodAll_cons hA
  obtain ⟨v1, vs1, d1, ds1, p1, q1, rfl, rfl, rfl, h1, r1⟩ := trodAll_cons r0
  obtain ⟨v2, vs2, d2, ds2, p2, q2, rfl, rfl, rfl, h2, r2⟩ := trodAll_cons r1
  obtain ⟨v3, vs3, d3, ds3, p3, q3, rfl, rfl, rfl, h3, r3⟩ := trodAll_cons r2
  obtain ⟨rfl, rfl, rfl⟩ := trodAll_nil r3
  obtain rfl : args = #[v0, v1, v2, v3] := by cases args; simp_all
  obtain ⟨rfl, rfl⟩ := trodVars_none hV
  obtain ⟨a0, rfl, rfl, rfl, w0⟩ := open_int Try.underlying3 (hval 0 3 v0 rfl rfl) h0
  obtain ⟨a1, rfl, rfl, rfl, w1⟩ := open_int Try.underlying3 (hval 1 3 v1 rfl rfl) h1
  obtain ⟨c2, e2, y2, z2, m2, rfl, rfl, rfl, hy2, hz2⟩ := open_agg2 Try.underlying36 (by kernel_rfl) cells36 (hval 2 36 v2 rfl rfl) h2
  obtain ⟨a2, f2, rfl, w2⟩ := DataW.trod_int Try.underlying34 hy2
  obtain ⟨b2, g2, rfl, x2⟩ := DataW.trod_int Try.underlying34 hz2
  simp at f2 g2
  subst f2 g2
  obtain ⟨c3, e3, y3, z3, m3, rfl, rfl, rfl, hy3, hz3⟩ := open_agg2 Try.underlying36 (by kernel_rfl) cells36 (hval 3 36 v3 rfl rfl) h3
  obtain ⟨a3, f3, rfl, w3⟩ := DataW.trod_int Try.underlying34 hy3
  obtain ⟨b3, g3, rfl, x3⟩ := DataW.trod_int Try.underlying34 hz3
  simp at f3 g3
  subst f3 g3
  clear hA0 hval0 hsz0
  refine (makes_walk a0 a1 a2 b2 a3 b3 W).mono fun e W' ⟨he, bel⟩ => ?_
  subst he
  exact ⟨_, rfl, _, _, _, [], _, [], hW', trodAll_mk1 (shut_bool Try.underlying4 _), (trodAll_cons_mk (shut_int Try.underlying3 w0) (trodAll_cons_mk (shut_int Try.underlying3 w1) (trodAll_cons_mk (shutZ w2 x2) (trodAll_cons_mk (shutZ w3 x3) trodAll_mk0)))), rfl, bel.frame _, fun h => by cases h⟩
theorem over : Rows.cplxMakesRow.holds Try.pinned (OpenSpec.ofChange Rows.cplxMakesSpec) :=
  OpenClaim.holds_of_wide 8 Try.f8 rfl rfl rfl rfl rfl rfl rfl ⟨rfl, rfl, rfl, rfl, rfl⟩ rfl rfl rfl rfl rfl (by kernel_rfl) Try.func8 (by kernel_rfl)
    (of_decide_eq_true (by kernel_rfl)) (by unfold Func.isWrapper; first | (rw [if_pos (by decide +kernel)]; kernel_rfl) | (rw [if_neg (by decide +kernel)]; exact ⟨rfl, rfl⟩))
    (fun os started H enc _ => lifted os started H enc)
theorem proved : Rows.CplxMakesSaid := over
#print axioms proved
end Go.Proofs.Ythadgapgnlghfaa.rowCplxMakes
namespace Go.Proofs.Ythadgapgnlghfaa
/-- The row, under a short name, for the claim. -/
theorem cplxMakes_holds : Rows.CplxMakesSaid := rowCplxMakes.proved
end Go.Proofs.Ythadgapgnlghfaa
