/-
  No cell of these rows narrows 'for every input' (looked for: loops, veiled, ifaces, maps, wideKeys, modest, calm, conditions, laid).
  DERIVED. THE GIVEN ROWS OF THIS SEAT. 11 by the template 'for every input the law returns true; each argument reads behind the call as it read before'; 0 by the template 'total and deterministic' (their statements: YtojohijgacnljaaTotals.lean).
  GIVEN WITH THE SEED: the statements are not yours to turn. If you find one false, say at which input.
  Laid BY PROGRAM, IN A SANDBOX (cutbox-rows.mjs): the forced cells as the released guide's own fill.sh prints them over the translation 8f7c59ee26a06996… (all of the seat's roots in one cut). By AI agents, Wed Nov 11 2026. No macro, syntax, notation, axiom, sorry.
-/
import Derived.Test.YtojohijgacnljaaChecked
import GoSem.Claim
import GoSem.ClaimJoined
import GoSem.ClaimMapViews
import Derived.JoinedTies
import Derived.KernelRfl
namespace Go.Proofs.Ytojohijgacnljaa
/- THE CELL 'sum', in the pinned program and in every row, IS THE sha256 OF THE DUMP (.gsa) THAT YtojohijgacnljaaProg.lean LOADS. Nothing in Lean hashes anything: it is a label: what it is worth is what the hold of that sum in a sandbox is worth. -/
noncomputable def Try.pinned : Pinned := { name := "ytojohijgacnljaa", sum := "8f7c59ee26a06996cf39eff7c60becbc64e2fb45f5872211a7ab0c06013a1a17", checked := Try.checked }
namespace Rows
def none {H : Type} : Left H := { results := [], args := [] }

/-- 'jacquardlaw01.TagParts': WHATEVER THE INPUT: true; the input reads as it did. -/
def tagPartsSpec : ChangeSpec := { name := "tagParts", fn := fun _ => fun
  | [d1, d2] => { results := [.lit (.bool true)], args := [d1, d2] }
  | _ => none }
def tagPartsRow : OpenClaim := { program := "ytojohijgacnljaa", sum := "8f7c59ee26a06996cf39eff7c60becbc64e2fb45f5872211a7ab0c06013a1a17", func := "jacquard/jacquardlaw01.TagParts", spec := "tagParts", apart := false }
def TagPartsSaid : Prop := tagPartsRow.holds Try.pinned (OpenSpec.ofChange tagPartsSpec)

/-- ITS FALSE NEIGHBOUR: 'it returns false'. Refute it at one input. -/
def tagPartsWrong : ChangeSpec := { name := "tagParts", fn := fun _ => fun
  | [d1, d2] => { results := [.lit (.bool false)], args := [d1, d2] }
  | _ => none }
def TagPartsWrongFalsely : Prop := tagPartsRow.holds Try.pinned (OpenSpec.ofChange tagPartsWrong)

/-- 'jacquardlaw01.TagWhole': WHATEVER THE INPUT: true; the input reads as it did. -/
def tagWholeSpec : ChangeSpec := { name := "tagWhole", fn := fun _ => fun
  | [d1, d2] => { results := [.lit (.bool true)], args := [d1, d2] }
  | _ => none }
def tagWholeRow : OpenClaim := { program := "ytojohijgacnljaa", sum := "8f7c59ee26a06996cf39eff7c60becbc64e2fb45f5872211a7ab0c06013a1a17", func := "jacquard/jacquardlaw01.TagWhole", spec := "tagWhole", apart := false }
def TagWholeSaid : Prop := tagWholeRow.holds Try.pinned (OpenSpec.ofChange tagWholeSpec)

/-- ITS FALSE NEIGHBOUR: 'it returns false'. Refute it at one input. -/
def tagWholeWrong : ChangeSpec := { name := "tagWhole", fn := fun _ => fun
  | [d1, d2] => { results := [.lit (.bool false)], args := [d1, d2] }
  | _ => none }
def TagWholeWrongFalsely : Prop := tagWholeRow.holds Try.pinned (OpenSpec.ofChange tagWholeWrong)

/-- 'jacquardlaw01.TagNegates': WHATEVER THE INPUT: true; the input reads as it did. -/
def tagNegatesSpec : ChangeSpec := { name := "tagNegates", fn := fun _ => fun
  | [d] => { results := [.lit (.bool true)], args := [d] }
  | _ => none }
def tagNegatesRow : OpenClaim := { program := "ytojohijgacnljaa", sum := "8f7c59ee26a06996cf39eff7c60becbc64e2fb45f5872211a7ab0c06013a1a17", func := "jacquard/jacquardlaw01.TagNegates", spec := "tagNegates", apart := false }
def TagNegatesSaid : Prop := tagNegatesRow.holds Try.pinned (OpenSpec.ofChange tagNegatesSpec)

/-- ITS FALSE NEIGHBOUR: 'it returns false'. Refute it at one input. -/
def tagNegatesWrong : ChangeSpec := { name := "tagNegates", fn := fun _ => fun
  | [d] => { results := [.lit (.bool false)], args := [d] }
  | _ => none }
def TagNegatesWrongFalsely : Prop := tagNegatesRow.holds Try.pinned (OpenSpec.ofChange tagNegatesWrong)

/-- 'jacquardlaw01.TagSums': WHATEVER THE INPUT: true; the input reads as it did. -/
def tagSumsSpec : ChangeSpec := { name := "tagSums", fn := fun _ => fun
  | [d1, d2] => { results := [.lit (.bool true)], args := [d1, d2] }
  | _ => none }
def tagSumsRow : OpenClaim := { program := "ytojohijgacnljaa", sum := "8f7c59ee26a06996cf39eff7c60becbc64e2fb45f5872211a7ab0c06013a1a17", func := "jacquard/jacquardlaw01.TagSums", spec := "tagSums", apart := false }
def TagSumsSaid : Prop := tagSumsRow.holds Try.pinned (OpenSpec.ofChange tagSumsSpec)

/-- ITS FALSE NEIGHBOUR: 'it returns false'. Refute it at one input. -/
def tagSumsWrong : ChangeSpec := { name := "tagSums", fn := fun _ => fun
  | [d1, d2] => { results := [.lit (.bool false)], args := [d1, d2] }
  | _ => none }
def TagSumsWrongFalsely : Prop := tagSumsRow.holds Try.pinned (OpenSpec.ofChange tagSumsWrong)

/-- 'jacquardlaw01.TagRules': WHATEVER THE INPUT: true; the input reads as it did. -/
def tagRulesSpec : ChangeSpec := { name := "tagRules", fn := fun _ => fun
  | [d1, d2, d3] => { results := [.lit (.bool true)], args := [d1, d2, d3] }
  | _ => none }
def tagRulesRow : OpenClaim := { program := "ytojohijgacnljaa", sum := "8f7c59ee26a06996cf39eff7c60becbc64e2fb45f5872211a7ab0c06013a1a17", func := "jacquard/jacquardlaw01.TagRules", spec := "tagRules", apart := false }
def TagRulesSaid : Prop := tagRulesRow.holds Try.pinned (OpenSpec.ofChange tagRulesSpec)

/-- ITS FALSE NEIGHBOUR: 'it returns false'. Refute it at one input. -/
def tagRulesWrong : ChangeSpec := { name := "tagRules", fn := fun _ => fun
  | [d1, d2, d3] => { results := [.lit (.bool false)], args := [d1, d2, d3] }
  | _ => none }
def TagRulesWrongFalsely : Prop := tagRulesRow.holds Try.pinned (OpenSpec.ofChange tagRulesWrong)

/-- 'jacquardlaw01.TagKinds': WHATEVER THE INPUT: true; the input reads as it did. -/
def tagKindsSpec : ChangeSpec := { name := "tagKinds", fn := fun _ => fun
  | [d] => { results := [.lit (.bool true)], args := [d] }
  | _ => none }
def tagKindsRow : OpenClaim := { program := "ytojohijgacnljaa", sum := "8f7c59ee26a06996cf39eff7c60becbc64e2fb45f5872211a7ab0c06013a1a17", func := "jacquard/jacquardlaw01.TagKinds", spec := "tagKinds", apart := false }
def TagKindsSaid : Prop := tagKindsRow.holds Try.pinned (OpenSpec.ofChange tagKindsSpec)

/-- ITS FALSE NEIGHBOUR: 'it returns false'. Refute it at one input. -/
def tagKindsWrong : ChangeSpec := { name := "tagKinds", fn := fun _ => fun
  | [d] => { results := [.lit (.bool false)], args := [d] }
  | _ => none }
def TagKindsWrongFalsely : Prop := tagKindsRow.holds Try.pinned (OpenSpec.ofChange tagKindsWrong)

/-- 'jacquardlaw01.TagOrders': WHATEVER THE INPUT: true; the input reads as it did. -/
def tagOrdersSpec : ChangeSpec := { name := "tagOrders", fn := fun _ => fun
  | [d1, d2] => { results := [.lit (.bool true)], args := [d1, d2] }
  | _ => none }
def tagOrdersRow : OpenClaim := { program := "ytojohijgacnljaa", sum := "8f7c59ee26a06996cf39eff7c60becbc64e2fb45f5872211a7ab0c06013a1a17", func := "jacquard/jacquardlaw01.TagOrders", spec := "tagOrders", apart := false }
def TagOrdersSaid : Prop := tagOrdersRow.holds Try.pinned (OpenSpec.ofChange tagOrdersSpec)

/-- ITS FALSE NEIGHBOUR: 'it returns false'. Refute it at one input. -/
def tagOrdersWrong : ChangeSpec := { name := "tagOrders", fn := fun _ => fun
  | [d1, d2] => { results := [.lit (.bool false)], args := [d1, d2] }
  | _ => none }
def TagOrdersWrongFalsely : Prop := tagOrdersRow.holds Try.pinned (OpenSpec.ofChange tagOrdersWrong)

/-- 'jacquardlaw01.TagChains': WHATEVER THE INPUT: true; the input reads as it did. -/
def tagChainsSpec : ChangeSpec := { name := "tagChains", fn := fun _ => fun
  | [d1, d2, d3] => { results := [.lit (.bool true)], args := [d1, d2, d3] }
  | _ => none }
def tagChainsRow : OpenClaim := { program := "ytojohijgacnljaa", sum := "8f7c59ee26a06996cf39eff7c60becbc64e2fb45f5872211a7ab0c06013a1a17", func := "jacquard/jacquardlaw01.TagChains", spec := "tagChains", apart := false }
def TagChainsSaid : Prop := tagChainsRow.holds Try.pinned (OpenSpec.ofChange tagChainsSpec)

/-- ITS FALSE NEIGHBOUR: 'it returns false'. Refute it at one input. -/
def tagChainsWrong : ChangeSpec := { name := "tagChains", fn := fun _ => fun
  | [d1, d2, d3] => { results := [.lit (.bool false)], args := [d1, d2, d3] }
  | _ => none }
def TagChainsWrongFalsely : Prop := tagChainsRow.holds Try.pinned (OpenSpec.ofChange tagChainsWrong)

/-- 'jacquardlaw01.TagApart': WHATEVER THE INPUT: true; the input reads as it did. -/
def tagApartSpec : ChangeSpec := { name := "tagApart", fn := fun _ => fun
  | [d1, d2] => { results := [.lit (.bool true)], args := [d1, d2] }
  | _ => none }
def tagApartRow : OpenClaim := { program := "ytojohijgacnljaa", sum := "8f7c59ee26a06996cf39eff7c60becbc64e2fb45f5872211a7ab0c06013a1a17", func := "jacquard/jacquardlaw01.TagApart", spec := "tagApart", apart := false }
def TagApartSaid : Prop := tagApartRow.holds Try.pinned (OpenSpec.ofChange tagApartSpec)

/-- ITS FALSE NEIGHBOUR: 'it returns false'. Refute it at one input. -/
def tagApartWrong : ChangeSpec := { name := "tagApart", fn := fun _ => fun
  | [d1, d2] => { results := [.lit (.bool false)], args := [d1, d2] }
  | _ => none }
def TagApartWrongFalsely : Prop := tagApartRow.holds Try.pinned (OpenSpec.ofChange tagApartWrong)

/-- 'jacquardlaw01.TagMakes': WHATEVER THE INPUT: true; the input reads as it did. -/
def tagMakesSpec : ChangeSpec := { name := "tagMakes", fn := fun _ => fun
  | [d1, d2] => { results := [.lit (.bool true)], args := [d1, d2] }
  | _ => none }
def tagMakesRow : OpenClaim := { program := "ytojohijgacnljaa", sum := "8f7c59ee26a06996cf39eff7c60becbc64e2fb45f5872211a7ab0c06013a1a17", func := "jacquard/jacquardlaw01.TagMakes", spec := "tagMakes", apart := false }
def TagMakesSaid : Prop := tagMakesRow.holds Try.pinned (OpenSpec.ofChange tagMakesSpec)

/-- ITS FALSE NEIGHBOUR: 'it returns false'. Refute it at one input. -/
def tagMakesWrong : ChangeSpec := { name := "tagMakes", fn := fun _ => fun
  | [d1, d2] => { results := [.lit (.bool false)], args := [d1, d2] }
  | _ => none }
def TagMakesWrongFalsely : Prop := tagMakesRow.holds Try.pinned (OpenSpec.ofChange tagMakesWrong)

/-- 'jacquardlaw01.TagBack': WHATEVER THE INPUT: true; the input reads as it did. -/
def tagBackSpec : ChangeSpec := { name := "tagBack", fn := fun _ => fun
  | [d1, d2] => { results := [.lit (.bool true)], args := [d1, d2] }
  | _ => none }
def tagBackRow : OpenClaim := { program := "ytojohijgacnljaa", sum := "8f7c59ee26a06996cf39eff7c60becbc64e2fb45f5872211a7ab0c06013a1a17", func := "jacquard/jacquardlaw01.TagBack", spec := "tagBack", apart := false }
def TagBackSaid : Prop := tagBackRow.holds Try.pinned (OpenSpec.ofChange tagBackSpec)

/-- ITS FALSE NEIGHBOUR: 'it returns false'. Refute it at one input. -/
def tagBackWrong : ChangeSpec := { name := "tagBack", fn := fun _ => fun
  | [d1, d2] => { results := [.lit (.bool false)], args := [d1, d2] }
  | _ => none }
def TagBackWrongFalsely : Prop := tagBackRow.holds Try.pinned (OpenSpec.ofChange tagBackWrong)

/- THE SECOND FORM. 'bulk': how many values and letters a reading holds, each counted each time it is reached (what is shared counts as often as it is met; a slice's spare places count too). A statement '..UptoSaid' is the law's where the arguments, and the package variables that the reading takes, are together of bulk at most 1048576: NARROWER than '..Said'. Prove '..Said' where nothing that the law and all that it calls make is longer than what came in: it says more and counts as full. Else prove '..UptoSaid'. A law counts once. -/
mutual
def uptoBulk {H : Type} : DataW H → Nat
  | .lit (.string bytes) => bytes.length + 1
  | .lit _ => 1
  | .nil => 1
  | .ptr d => uptoBulk d + 1
  | .slice elems spare => uptoBulkAll elems + uptoBulkAll spare + 1
  | .agg parts => uptoBulkAll parts + 1
  | .iface _ d => uptoBulk d + 1
  | .map entries => uptoBulkEntries entries + 1
  | .held _ => 1
def uptoBulkAll {H : Type} : List (DataW H) → Nat
  | [] => 0
  | d :: r => uptoBulk d + uptoBulkAll r
def uptoBulkEntries {H : Type} : List (Lit × DataW H) → Nat
  | [] => 0
  | x :: r => uptoBulkEntry x + uptoBulkEntries r
def uptoBulkEntry {H : Type} : Lit × DataW H → Nat
  | (.string bytes, d) => bytes.length + uptoBulk d + 1
  | (_, d) => uptoBulk d + 1
 end
def uptoSmall : (H : Type) → List (DataW H) → Bool := fun _ ds => decide (uptoBulkAll ds ≤ 1048576)
def OpenSpec.upto (s : _root_.Go.ChangeSpec) : _root_.Go.OpenSpec := { _root_.Go.OpenSpec.ofChange s with cond := some uptoSmall }

/-- 'jacquardlaw01.TagParts', WHERE WHAT IT READS IS OF BULK AT MOST 1048576: true; the input reads as it did. -/
def tagPartsUptoRow : OpenClaim := { program := "ytojohijgacnljaa", sum := "8f7c59ee26a06996cf39eff7c60becbc64e2fb45f5872211a7ab0c06013a1a17", func := "jacquard/jacquardlaw01.TagParts", spec := "tagParts", apart := false, narrowed := true }
def TagPartsUptoSaid : Prop := tagPartsUptoRow.holds Try.pinned (OpenSpec.upto tagPartsSpec)

/-- 'jacquardlaw01.TagWhole', WHERE WHAT IT READS IS OF BULK AT MOST 1048576: true; the input reads as it did. -/
def tagWholeUptoRow : OpenClaim := { program := "ytojohijgacnljaa", sum := "8f7c59ee26a06996cf39eff7c60becbc64e2fb45f5872211a7ab0c06013a1a17", func := "jacquard/jacquardlaw01.TagWhole", spec := "tagWhole", apart := false, narrowed := true }
def TagWholeUptoSaid : Prop := tagWholeUptoRow.holds Try.pinned (OpenSpec.upto tagWholeSpec)

/-- 'jacquardlaw01.TagNegates', WHERE WHAT IT READS IS OF BULK AT MOST 1048576: true; the input reads as it did. -/
def tagNegatesUptoRow : OpenClaim := { program := "ytojohijgacnljaa", sum := "8f7c59ee26a06996cf39eff7c60becbc64e2fb45f5872211a7ab0c06013a1a17", func := "jacquard/jacquardlaw01.TagNegates", spec := "tagNegates", apart := false, narrowed := true }
def TagNegatesUptoSaid : Prop := tagNegatesUptoRow.holds Try.pinned (OpenSpec.upto tagNegatesSpec)

/-- 'jacquardlaw01.TagSums', WHERE WHAT IT READS IS OF BULK AT MOST 1048576: true; the input reads as it did. -/
def tagSumsUptoRow : OpenClaim := { program := "ytojohijgacnljaa", sum := "8f7c59ee26a06996cf39eff7c60becbc64e2fb45f5872211a7ab0c06013a1a17", func := "jacquard/jacquardlaw01.TagSums", spec := "tagSums", apart := false, narrowed := true }
def TagSumsUptoSaid : Prop := tagSumsUptoRow.holds Try.pinned (OpenSpec.upto tagSumsSpec)

/-- 'jacquardlaw01.TagRules', WHERE WHAT IT READS IS OF BULK AT MOST 1048576: true; the input reads as it did. -/
def tagRulesUptoRow : OpenClaim := { program := "ytojohijgacnljaa", sum := "8f7c59ee26a06996cf39eff7c60becbc64e2fb45f5872211a7ab0c06013a1a17", func := "jacquard/jacquardlaw01.TagRules", spec := "tagRules", apart := false, narrowed := true }
def TagRulesUptoSaid : Prop := tagRulesUptoRow.holds Try.pinned (OpenSpec.upto tagRulesSpec)

/-- 'jacquardlaw01.TagKinds', WHERE WHAT IT READS IS OF BULK AT MOST 1048576: true; the input reads as it did. -/
def tagKindsUptoRow : OpenClaim := { program := "ytojohijgacnljaa", sum := "8f7c59ee26a06996cf39eff7c60becbc64e2fb45f5872211a7ab0c06013a1a17", func := "jacquard/jacquardlaw01.TagKinds", spec := "tagKinds", apart := false, narrowed := true }
def TagKindsUptoSaid : Prop := tagKindsUptoRow.holds Try.pinned (OpenSpec.upto tagKindsSpec)

/-- 'jacquardlaw01.TagOrders', WHERE WHAT IT READS IS OF BULK AT MOST 1048576: true; the input reads as it did. -/
def tagOrdersUptoRow : OpenClaim := { program := "ytojohijgacnljaa", sum := "8f7c59ee26a06996cf39eff7c60becbc64e2fb45f5872211a7ab0c06013a1a17", func := "jacquard/jacquardlaw01.TagOrders", spec := "tagOrders", apart := false, narrowed := true }
def TagOrdersUptoSaid : Prop := tagOrdersUptoRow.holds Try.pinned (OpenSpec.upto tagOrdersSpec)

/-- 'jacquardlaw01.TagChains', WHERE WHAT IT READS IS OF BULK AT MOST 1048576: true; the input reads as it did. -/
def tagChainsUptoRow : OpenClaim := { program := "ytojohijgacnljaa", sum := "8f7c59ee26a06996cf39eff7c60becbc64e2fb45f5872211a7ab0c06013a1a17", func := "jacquard/jacquardlaw01.TagChains", spec := "tagChains", apart := false, narrowed := true }
def TagChainsUptoSaid : Prop := tagChainsUptoRow.holds Try.pinned (OpenSpec.upto tagChainsSpec)

/-- 'jacquardlaw01.TagApart', WHERE WHAT IT READS IS OF BULK AT MOST 1048576: true; the input reads as it did. -/
def tagApartUptoRow : OpenClaim := { program := "ytojohijgacnljaa", sum := "8f7c59ee26a06996cf39eff7c60becbc64e2fb45f5872211a7ab0c06013a1a17", func := "jacquard/jacquardlaw01.TagApart", spec := "tagApart", apart := false, narrowed := true }
def TagApartUptoSaid : Prop := tagApartUptoRow.holds Try.pinned (OpenSpec.upto tagApartSpec)

/-- 'jacquardlaw01.TagMakes', WHERE WHAT IT READS IS OF BULK AT MOST 1048576: true; the input reads as it did. -/
def tagMakesUptoRow : OpenClaim := { program := "ytojohijgacnljaa", sum := "8f7c59ee26a06996cf39eff7c60becbc64e2fb45f5872211a7ab0c06013a1a17", func := "jacquard/jacquardlaw01.TagMakes", spec := "tagMakes", apart := false, narrowed := true }
def TagMakesUptoSaid : Prop := tagMakesUptoRow.holds Try.pinned (OpenSpec.upto tagMakesSpec)

/-- 'jacquardlaw01.TagBack', WHERE WHAT IT READS IS OF BULK AT MOST 1048576: true; the input reads as it did. -/
def tagBackUptoRow : OpenClaim := { program := "ytojohijgacnljaa", sum := "8f7c59ee26a06996cf39eff7c60becbc64e2fb45f5872211a7ab0c06013a1a17", func := "jacquard/jacquardlaw01.TagBack", spec := "tagBack", apart := false, narrowed := true }
def TagBackUptoSaid : Prop := tagBackUptoRow.holds Try.pinned (OpenSpec.upto tagBackSpec)

end Rows
end Go.Proofs.Ytojohijgacnljaa
