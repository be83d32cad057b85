/-
  No cell of these rows narrows 'for every input' (looked for: loops, veiled, ifaces, maps, wideKeys, modest, calm, conditions, laid).
  DERIVED. THE GIVEN ROWS OF THIS SEAT. 8 by the template 'for every input the law returns true; each argument reads behind the call as it read before'; 0 by the template 'total and deterministic' (their statements: YthadgapgnlghfaaTotals.lean).
  GIVEN WITH THE SEED: the statements are not yours to turn. If you find one false, say at which input.
  Laid BY PROGRAM, IN A SANDBOX (cutbox-rows.mjs): the forced cells as the released guide's own fill.sh prints them over the translation 3265cb7d4e6c6265… (all of the seat's roots in one cut). By AI agents, Wed Nov 11 2026. No macro, syntax, notation, axiom, sorry.
-/
import Derived.Test.YthadgapgnlghfaaChecked
import GoSem.Claim
import GoSem.ClaimJoined
import GoSem.ClaimMapViews
import Derived.JoinedTies
import Derived.KernelRfl
namespace Go.Proofs.Ythadgapgnlghfaa
/- THE CELL 'sum', in the pinned program and in every row, IS THE sha256 OF THE DUMP (.gsa) THAT YthadgapgnlghfaaProg.lean LOADS. Nothing in Lean hashes anything: it is a label: what it is worth is what the hold of that sum in a sandbox is worth. -/
noncomputable def Try.pinned : Pinned := { name := "ythadgapgnlghfaa", sum := "3265cb7d4e6c626578a7ae755648330a6776bf76c2ec6e48b290cff8ec9e0794", checked := Try.checked }
namespace Rows
def none {H : Type} : Left H := { results := [], args := [] }

/-- 'jacquardlaw02.CplxInts': WHATEVER THE INPUT: true; the input reads as it did. -/
def cplxIntsSpec : ChangeSpec := { name := "cplxInts", fn := fun _ => fun
  | [d1, d2, d3, d4] => { results := [.lit (.bool true)], args := [d1, d2, d3, d4] }
  | _ => none }
def cplxIntsRow : OpenClaim := { program := "ythadgapgnlghfaa", sum := "3265cb7d4e6c626578a7ae755648330a6776bf76c2ec6e48b290cff8ec9e0794", func := "jacquard/jacquardlaw02.CplxInts", spec := "cplxInts", inPlace := ["math.Float64bits"], apart := false }
def CplxIntsSaid : Prop := cplxIntsRow.holds Try.pinned (OpenSpec.ofChange cplxIntsSpec)

/-- ITS FALSE NEIGHBOUR: 'it returns false'. Refute it at one input. -/
def cplxIntsWrong : ChangeSpec := { name := "cplxInts", fn := fun _ => fun
  | [d1, d2, d3, d4] => { results := [.lit (.bool false)], args := [d1, d2, d3, d4] }
  | _ => none }
def CplxIntsWrongFalsely : Prop := cplxIntsRow.holds Try.pinned (OpenSpec.ofChange cplxIntsWrong)

/-- 'jacquardlaw02.CplxBack': WHATEVER THE INPUT: true; the input reads as it did. -/
def cplxBackSpec : ChangeSpec := { name := "cplxBack", fn := fun _ => fun
  | [d1, d2, d3, d4] => { results := [.lit (.bool true)], args := [d1, d2, d3, d4] }
  | _ => none }
def cplxBackRow : OpenClaim := { program := "ythadgapgnlghfaa", sum := "3265cb7d4e6c626578a7ae755648330a6776bf76c2ec6e48b290cff8ec9e0794", func := "jacquard/jacquardlaw02.CplxBack", spec := "cplxBack", inPlace := ["math.Float64bits"], apart := false }
def CplxBackSaid : Prop := cplxBackRow.holds Try.pinned (OpenSpec.ofChange cplxBackSpec)

/-- ITS FALSE NEIGHBOUR: 'it returns false'. Refute it at one input. -/
def cplxBackWrong : ChangeSpec := { name := "cplxBack", fn := fun _ => fun
  | [d1, d2, d3, d4] => { results := [.lit (.bool false)], args := [d1, d2, d3, d4] }
  | _ => none }
def CplxBackWrongFalsely : Prop := cplxBackRow.holds Try.pinned (OpenSpec.ofChange cplxBackWrong)

/-- 'jacquardlaw02.CplxParts': WHATEVER THE INPUT: true; the input reads as it did. -/
def cplxPartsSpec : ChangeSpec := { name := "cplxParts", fn := fun _ => fun
  | [d1, d2, d3] => { results := [.lit (.bool true)], args := [d1, d2, d3] }
  | _ => none }
def cplxPartsRow : OpenClaim := { program := "ythadgapgnlghfaa", sum := "3265cb7d4e6c626578a7ae755648330a6776bf76c2ec6e48b290cff8ec9e0794", func := "jacquard/jacquardlaw02.CplxParts", spec := "cplxParts", inPlace := ["math.Float64frombits", "math.Float64bits"], apart := false }
def CplxPartsSaid : Prop := cplxPartsRow.holds Try.pinned (OpenSpec.ofChange cplxPartsSpec)

/-- ITS FALSE NEIGHBOUR: 'it returns false'. Refute it at one input. -/
def cplxPartsWrong : ChangeSpec := { name := "cplxParts", fn := fun _ => fun
  | [d1, d2, d3] => { results := [.lit (.bool false)], args := [d1, d2, d3] }
  | _ => none }
def CplxPartsWrongFalsely : Prop := cplxPartsRow.holds Try.pinned (OpenSpec.ofChange cplxPartsWrong)

/-- 'jacquardlaw02.CplxPowers': WHATEVER THE INPUT: true; the input reads as it did. -/
def cplxPowersSpec : ChangeSpec := { name := "cplxPowers", fn := fun _ => fun
  | [d1, d2, d3] => { results := [.lit (.bool true)], args := [d1, d2, d3] }
  | _ => none }
def cplxPowersRow : OpenClaim := { program := "ythadgapgnlghfaa", sum := "3265cb7d4e6c626578a7ae755648330a6776bf76c2ec6e48b290cff8ec9e0794", func := "jacquard/jacquardlaw02.CplxPowers", spec := "cplxPowers", inPlace := ["math.Float64bits", "math.Float64frombits"], apart := false }
def CplxPowersSaid : Prop := cplxPowersRow.holds Try.pinned (OpenSpec.ofChange cplxPowersSpec)

/-- ITS FALSE NEIGHBOUR: 'it returns false'. Refute it at one input. -/
def cplxPowersWrong : ChangeSpec := { name := "cplxPowers", fn := fun _ => fun
  | [d1, d2, d3] => { results := [.lit (.bool false)], args := [d1, d2, d3] }
  | _ => none }
def CplxPowersWrongFalsely : Prop := cplxPowersRow.holds Try.pinned (OpenSpec.ofChange cplxPowersWrong)

/-- 'jacquardlaw02.CplxSums': WHATEVER THE INPUT: true; the input reads as it did. -/
def cplxSumsSpec : ChangeSpec := { name := "cplxSums", fn := fun _ => fun
  | [d1, d2] => { results := [.lit (.bool true)], args := [d1, d2] }
  | _ => none }
def cplxSumsRow : OpenClaim := { program := "ythadgapgnlghfaa", sum := "3265cb7d4e6c626578a7ae755648330a6776bf76c2ec6e48b290cff8ec9e0794", func := "jacquard/jacquardlaw02.CplxSums", spec := "cplxSums", inPlace := ["math.Float64frombits", "math.Float64bits"], apart := false }
def CplxSumsSaid : Prop := cplxSumsRow.holds Try.pinned (OpenSpec.ofChange cplxSumsSpec)

/-- ITS FALSE NEIGHBOUR: 'it returns false'. Refute it at one input. -/
def cplxSumsWrong : ChangeSpec := { name := "cplxSums", fn := fun _ => fun
  | [d1, d2] => { results := [.lit (.bool false)], args := [d1, d2] }
  | _ => none }
def CplxSumsWrongFalsely : Prop := cplxSumsRow.holds Try.pinned (OpenSpec.ofChange cplxSumsWrong)

/-- 'jacquardlaw02.CplxMakes': WHATEVER THE INPUT: true; the input reads as it did. -/
def cplxMakesSpec : ChangeSpec := { name := "cplxMakes", fn := fun _ => fun
  | [d1, d2, d3, d4] => { results := [.lit (.bool true)], args := [d1, d2, d3, d4] }
  | _ => none }
def cplxMakesRow : OpenClaim := { program := "ythadgapgnlghfaa", sum := "3265cb7d4e6c626578a7ae755648330a6776bf76c2ec6e48b290cff8ec9e0794", func := "jacquard/jacquardlaw02.CplxMakes", spec := "cplxMakes", inPlace := ["math.Float64frombits", "math.Float64bits"], apart := false }
def CplxMakesSaid : Prop := cplxMakesRow.holds Try.pinned (OpenSpec.ofChange cplxMakesSpec)

/-- ITS FALSE NEIGHBOUR: 'it returns false'. Refute it at one input. -/
def cplxMakesWrong : ChangeSpec := { name := "cplxMakes", fn := fun _ => fun
  | [d1, d2, d3, d4] => { results := [.lit (.bool false)], args := [d1, d2, d3, d4] }
  | _ => none }
def CplxMakesWrongFalsely : Prop := cplxMakesRow.holds Try.pinned (OpenSpec.ofChange cplxMakesWrong)

/-- 'jacquardlaw02.CplxSames': WHATEVER THE INPUT: true; the input reads as it did. -/
def cplxSamesSpec : ChangeSpec := { name := "cplxSames", fn := fun _ => fun
  | [d1, d2] => { results := [.lit (.bool true)], args := [d1, d2] }
  | _ => none }
def cplxSamesRow : OpenClaim := { program := "ythadgapgnlghfaa", sum := "3265cb7d4e6c626578a7ae755648330a6776bf76c2ec6e48b290cff8ec9e0794", func := "jacquard/jacquardlaw02.CplxSames", spec := "cplxSames", inPlace := ["math.Float64frombits", "math.Float64bits"], apart := false }
def CplxSamesSaid : Prop := cplxSamesRow.holds Try.pinned (OpenSpec.ofChange cplxSamesSpec)

/-- ITS FALSE NEIGHBOUR: 'it returns false'. Refute it at one input. -/
def cplxSamesWrong : ChangeSpec := { name := "cplxSames", fn := fun _ => fun
  | [d1, d2] => { results := [.lit (.bool false)], args := [d1, d2] }
  | _ => none }
def CplxSamesWrongFalsely : Prop := cplxSamesRow.holds Try.pinned (OpenSpec.ofChange cplxSamesWrong)

/-- 'jacquardlaw02.CplxRules': WHATEVER THE INPUT: true; the input reads as it did. -/
def cplxRulesSpec : ChangeSpec := { name := "cplxRules", fn := fun _ => fun
  | [d1, d2] => { results := [.lit (.bool true)], args := [d1, d2] }
  | _ => none }
def cplxRulesRow : OpenClaim := { program := "ythadgapgnlghfaa", sum := "3265cb7d4e6c626578a7ae755648330a6776bf76c2ec6e48b290cff8ec9e0794", func := "jacquard/jacquardlaw02.CplxRules", spec := "cplxRules", inPlace := ["math.Float64frombits", "math.Float64bits"], apart := false }
def CplxRulesSaid : Prop := cplxRulesRow.holds Try.pinned (OpenSpec.ofChange cplxRulesSpec)

/-- ITS FALSE NEIGHBOUR: 'it returns false'. Refute it at one input. -/
def cplxRulesWrong : ChangeSpec := { name := "cplxRules", fn := fun _ => fun
  | [d1, d2] => { results := [.lit (.bool false)], args := [d1, d2] }
  | _ => none }
def CplxRulesWrongFalsely : Prop := cplxRulesRow.holds Try.pinned (OpenSpec.ofChange cplxRulesWrong)

/- THE SECOND FORM. 'bulk': how many values and letters a reading holds, each counted each time it is reached (what is shared counts as often as it is met; a slice's spare places count too). A statement '..UptoSaid' is the law's where the arguments, and the package variables that the reading takes, are together of bulk at most 1048576: NARROWER than '..Said'. Prove '..Said' where nothing that the law and all that it calls make is longer than what came in: it says more and counts as full. Else prove '..UptoSaid'. A law counts once. -/
mutual
def uptoBulk {H : Type} : DataW H → Nat
  | .lit (.string bytes) => bytes.length + 1
  | .lit _ => 1
  | .nil => 1
  | .ptr d => uptoBulk d + 1
  | .slice elems spare => uptoBulkAll elems + uptoBulkAll spare + 1
  | .agg parts => uptoBulkAll parts + 1
  | .iface _ d => uptoBulk d + 1
  | .map entries => uptoBulkEntries entries + 1
  | .held _ => 1
def uptoBulkAll {H : Type} : List (DataW H) → Nat
  | [] => 0
  | d :: r => uptoBulk d + uptoBulkAll r
def uptoBulkEntries {H : Type} : List (Lit × DataW H) → Nat
  | [] => 0
  | x :: r => uptoBulkEntry x + uptoBulkEntries r
def uptoBulkEntry {H : Type} : Lit × DataW H → Nat
  | (.string bytes, d) => bytes.length + uptoBulk d + 1
  | (_, d) => uptoBulk d + 1
 end
def uptoSmall : (H : Type) → List (DataW H) → Bool := fun _ ds => decide (uptoBulkAll ds ≤ 1048576)
def OpenSpec.upto (s : _root_.Go.ChangeSpec) : _root_.Go.OpenSpec := { _root_.Go.OpenSpec.ofChange s with cond := some uptoSmall }

/-- 'jacquardlaw02.CplxInts', WHERE WHAT IT READS IS OF BULK AT MOST 1048576: true; the input reads as it did. -/
def cplxIntsUptoRow : OpenClaim := { program := "ythadgapgnlghfaa", sum := "3265cb7d4e6c626578a7ae755648330a6776bf76c2ec6e48b290cff8ec9e0794", func := "jacquard/jacquardlaw02.CplxInts", spec := "cplxInts", inPlace := ["math.Float64bits"], apart := false, narrowed := true }
def CplxIntsUptoSaid : Prop := cplxIntsUptoRow.holds Try.pinned (OpenSpec.upto cplxIntsSpec)

/-- 'jacquardlaw02.CplxBack', WHERE WHAT IT READS IS OF BULK AT MOST 1048576: true; the input reads as it did. -/
def cplxBackUptoRow : OpenClaim := { program := "ythadgapgnlghfaa", sum := "3265cb7d4e6c626578a7ae755648330a6776bf76c2ec6e48b290cff8ec9e0794", func := "jacquard/jacquardlaw02.CplxBack", spec := "cplxBack", inPlace := ["math.Float64bits"], apart := false, narrowed := true }
def CplxBackUptoSaid : Prop := cplxBackUptoRow.holds Try.pinned (OpenSpec.upto cplxBackSpec)

/-- 'jacquardlaw02.CplxParts', WHERE WHAT IT READS IS OF BULK AT MOST 1048576: true; the input reads as it did. -/
def cplxPartsUptoRow : OpenClaim := { program := "ythadgapgnlghfaa", sum := "3265cb7d4e6c626578a7ae755648330a6776bf76c2ec6e48b290cff8ec9e0794", func := "jacquard/jacquardlaw02.CplxParts", spec := "cplxParts", inPlace := ["math.Float64frombits", "math.Float64bits"], apart := false, narrowed := true }
def CplxPartsUptoSaid : Prop := cplxPartsUptoRow.holds Try.pinned (OpenSpec.upto cplxPartsSpec)

/-- 'jacquardlaw02.CplxPowers', WHERE WHAT IT READS IS OF BULK AT MOST 1048576: true; the input reads as it did. -/
def cplxPowersUptoRow : OpenClaim := { program := "ythadgapgnlghfaa", sum := "3265cb7d4e6c626578a7ae755648330a6776bf76c2ec6e48b290cff8ec9e0794", func := "jacquard/jacquardlaw02.CplxPowers", spec := "cplxPowers", inPlace := ["math.Float64bits", "math.Float64frombits"], apart := false, narrowed := true }
def CplxPowersUptoSaid : Prop := cplxPowersUptoRow.holds Try.pinned (OpenSpec.upto cplxPowersSpec)

/-- 'jacquardlaw02.CplxSums', WHERE WHAT IT READS IS OF BULK AT MOST 1048576: true; the input reads as it did. -/
def cplxSumsUptoRow : OpenClaim := { program := "ythadgapgnlghfaa", sum := "3265cb7d4e6c626578a7ae755648330a6776bf76c2ec6e48b290cff8ec9e0794", func := "jacquard/jacquardlaw02.CplxSums", spec := "cplxSums", inPlace := ["math.Float64frombits", "math.Float64bits"], apart := false, narrowed := true }
def CplxSumsUptoSaid : Prop := cplxSumsUptoRow.holds Try.pinned (OpenSpec.upto cplxSumsSpec)

/-- 'jacquardlaw02.CplxMakes', WHERE WHAT IT READS IS OF BULK AT MOST 1048576: true; the input reads as it did. -/
def cplxMakesUptoRow : OpenClaim := { program := "ythadgapgnlghfaa", sum := "3265cb7d4e6c626578a7ae755648330a6776bf76c2ec6e48b290cff8ec9e0794", func := "jacquard/jacquardlaw02.CplxMakes", spec := "cplxMakes", inPlace := ["math.Float64frombits", "math.Float64bits"], apart := false, narrowed := true }
def CplxMakesUptoSaid : Prop := cplxMakesUptoRow.holds Try.pinned (OpenSpec.upto cplxMakesSpec)

/-- 'jacquardlaw02.CplxSames', WHERE WHAT IT READS IS OF BULK AT MOST 1048576: true; the input reads as it did. -/
def cplxSamesUptoRow : OpenClaim := { program := "ythadgapgnlghfaa", sum := "3265cb7d4e6c626578a7ae755648330a6776bf76c2ec6e48b290cff8ec9e0794", func := "jacquard/jacquardlaw02.CplxSames", spec := "cplxSames", inPlace := ["math.Float64frombits", "math.Float64bits"], apart := false, narrowed := true }
def CplxSamesUptoSaid : Prop := cplxSamesUptoRow.holds Try.pinned (OpenSpec.upto cplxSamesSpec)

/-- 'jacquardlaw02.CplxRules', WHERE WHAT IT READS IS OF BULK AT MOST 1048576: true; the input reads as it did. -/
def cplxRulesUptoRow : OpenClaim := { program := "ythadgapgnlghfaa", sum := "3265cb7d4e6c626578a7ae755648330a6776bf76c2ec6e48b290cff8ec9e0794", func := "jacquard/jacquardlaw02.CplxRules", spec := "cplxRules", inPlace := ["math.Float64frombits", "math.Float64bits"], apart := false, narrowed := true }
def CplxRulesUptoSaid : Prop := cplxRulesUptoRow.holds Try.pinned (OpenSpec.upto cplxRulesSpec)

end Rows
end Go.Proofs.Ythadgapgnlghfaa
