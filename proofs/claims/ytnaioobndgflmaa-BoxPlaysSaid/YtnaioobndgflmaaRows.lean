/-
  No cell of these rows narrows 'for every input' (looked for: loops, veiled, ifaces, maps, wideKeys, modest, calm, conditions, laid).
  DERIVED. THE GIVEN ROWS OF THIS SEAT. 4 by the template 'for every input the law returns true; each argument reads behind the call as it read before'; 0 by the template 'total and deterministic' (their statements: YtnaioobndgflmaaTotals.lean).
  GIVEN WITH THE SEED: the statements are not yours to turn. If you find one false, say at which input.
  Laid BY PROGRAM, IN A SANDBOX (cutbox-rows.mjs): the forced cells as the released guide's own fill.sh prints them over the translation 009ce0ed0d9fce15… (all of the seat's roots in one cut). By AI agents, Wed Nov 11 2026. No macro, syntax, notation, axiom, sorry.
-/
import Derived.Test.YtnaioobndgflmaaChecked
import GoSem.Claim
import GoSem.ClaimJoined
import GoSem.ClaimMapViews
import Derived.JoinedTies
import Derived.KernelRfl
namespace Go.Proofs.Ytnaioobndgflmaa
/- THE CELL 'sum', in the pinned program and in every row, IS THE sha256 OF THE DUMP (.gsa) THAT YtnaioobndgflmaaProg.lean LOADS. Nothing in Lean hashes anything: it is a label: what it is worth is what the hold of that sum in a sandbox is worth. -/
noncomputable def Try.pinned : Pinned := { name := "ytnaioobndgflmaa", sum := "009ce0ed0d9fce150cdebecfdb85404aabf1059b712e0d2d74f160ad95359a18", checked := Try.checked }
namespace Rows
def none {H : Type} : Left H := { results := [], args := [] }

/-- 'jacquardlaw19.BoxOrders': WHATEVER THE INPUT: true; the input reads as it did. -/
def boxOrdersSpec : ChangeSpec := { name := "boxOrders", fn := fun _ => fun
  | [d1, d2] => { results := [.lit (.bool true)], args := [d1, d2] }
  | _ => none }
def boxOrdersRow : OpenClaim := { program := "ytnaioobndgflmaa", sum := "009ce0ed0d9fce150cdebecfdb85404aabf1059b712e0d2d74f160ad95359a18", func := "jacquard/jacquardlaw19.BoxOrders", spec := "boxOrders", apart := false }
def BoxOrdersSaid : Prop := boxOrdersRow.holds Try.pinned (OpenSpec.ofChange boxOrdersSpec)

/-- ITS FALSE NEIGHBOUR: 'it returns false'. Refute it at one input. -/
def boxOrdersWrong : ChangeSpec := { name := "boxOrders", fn := fun _ => fun
  | [d1, d2] => { results := [.lit (.bool false)], args := [d1, d2] }
  | _ => none }
def BoxOrdersWrongFalsely : Prop := boxOrdersRow.holds Try.pinned (OpenSpec.ofChange boxOrdersWrong)

/-- 'jacquardlaw19.BoxPlays': WHATEVER THE INPUT: true; the input reads as it did. -/
def boxPlaysSpec : ChangeSpec := { name := "boxPlays", fn := fun _ => fun
  | [d] => { results := [.lit (.bool true)], args := [d] }
  | _ => none }
def boxPlaysRow : OpenClaim := { program := "ytnaioobndgflmaa", sum := "009ce0ed0d9fce150cdebecfdb85404aabf1059b712e0d2d74f160ad95359a18", func := "jacquard/jacquardlaw19.BoxPlays", spec := "boxPlays", apart := false }
def BoxPlaysSaid : Prop := boxPlaysRow.holds Try.pinned (OpenSpec.ofChange boxPlaysSpec)

/-- ITS FALSE NEIGHBOUR: 'it returns false'. Refute it at one input. -/
def boxPlaysWrong : ChangeSpec := { name := "boxPlays", fn := fun _ => fun
  | [d] => { results := [.lit (.bool false)], args := [d] }
  | _ => none }
def BoxPlaysWrongFalsely : Prop := boxPlaysRow.holds Try.pinned (OpenSpec.ofChange boxPlaysWrong)

/-- 'jacquardlaw19.BoxBounds': WHATEVER THE INPUT: true; the input reads as it did. -/
def boxBoundsSpec : ChangeSpec := { name := "boxBounds", fn := fun _ => fun
  | [d1, d2] => { results := [.lit (.bool true)], args := [d1, d2] }
  | _ => none }
def boxBoundsRow : OpenClaim := { program := "ytnaioobndgflmaa", sum := "009ce0ed0d9fce150cdebecfdb85404aabf1059b712e0d2d74f160ad95359a18", func := "jacquard/jacquardlaw19.BoxBounds", spec := "boxBounds", apart := false }
def BoxBoundsSaid : Prop := boxBoundsRow.holds Try.pinned (OpenSpec.ofChange boxBoundsSpec)

/-- ITS FALSE NEIGHBOUR: 'it returns false'. Refute it at one input. -/
def boxBoundsWrong : ChangeSpec := { name := "boxBounds", fn := fun _ => fun
  | [d1, d2] => { results := [.lit (.bool false)], args := [d1, d2] }
  | _ => none }
def BoxBoundsWrongFalsely : Prop := boxBoundsRow.holds Try.pinned (OpenSpec.ofChange boxBoundsWrong)

/-- 'jacquardlaw19.BoxFills': WHATEVER THE INPUT: true; the input reads as it did. -/
def boxFillsSpec : ChangeSpec := { name := "boxFills", fn := fun _ => fun
  | [d1, d2] => { results := [.lit (.bool true)], args := [d1, d2] }
  | _ => none }
def boxFillsRow : OpenClaim := { program := "ytnaioobndgflmaa", sum := "009ce0ed0d9fce150cdebecfdb85404aabf1059b712e0d2d74f160ad95359a18", func := "jacquard/jacquardlaw19.BoxFills", spec := "boxFills", apart := false }
def BoxFillsSaid : Prop := boxFillsRow.holds Try.pinned (OpenSpec.ofChange boxFillsSpec)

/-- ITS FALSE NEIGHBOUR: 'it returns false'. Refute it at one input. -/
def boxFillsWrong : ChangeSpec := { name := "boxFills", fn := fun _ => fun
  | [d1, d2] => { results := [.lit (.bool false)], args := [d1, d2] }
  | _ => none }
def BoxFillsWrongFalsely : Prop := boxFillsRow.holds Try.pinned (OpenSpec.ofChange boxFillsWrong)

/- THE SECOND FORM. 'bulk': how many values and letters a reading holds, each counted each time it is reached (what is shared counts as often as it is met; a slice's spare places count too). A statement '..UptoSaid' is the law's where the arguments, and the package variables that the reading takes, are together of bulk at most 1048576: NARROWER than '..Said'. Prove '..Said' where nothing that the law and all that it calls make is longer than what came in: it says more and counts as full. Else prove '..UptoSaid'. A law counts once. -/
mutual
def uptoBulk {H : Type} : DataW H → Nat
  | .lit (.string bytes) => bytes.length + 1
  | .lit _ => 1
  | .nil => 1
  | .ptr d => uptoBulk d + 1
  | .slice elems spare => uptoBulkAll elems + uptoBulkAll spare + 1
  | .agg parts => uptoBulkAll parts + 1
  | .iface _ d => uptoBulk d + 1
  | .map entries => uptoBulkEntries entries + 1
  | .held _ => 1
def uptoBulkAll {H : Type} : List (DataW H) → Nat
  | [] => 0
  | d :: r => uptoBulk d + uptoBulkAll r
def uptoBulkEntries {H : Type} : List (Lit × DataW H) → Nat
  | [] => 0
  | x :: r => uptoBulkEntry x + uptoBulkEntries r
def uptoBulkEntry {H : Type} : Lit × DataW H → Nat
  | (.string bytes, d) => bytes.length + uptoBulk d + 1
  | (_, d) => uptoBulk d + 1
 end
def uptoSmall : (H : Type) → List (DataW H) → Bool := fun _ ds => decide (uptoBulkAll ds ≤ 1048576)
def OpenSpec.upto (s : _root_.Go.ChangeSpec) : _root_.Go.OpenSpec := { _root_.Go.OpenSpec.ofChange s with cond := some uptoSmall }

/-- 'jacquardlaw19.BoxOrders', WHERE WHAT IT READS IS OF BULK AT MOST 1048576: true; the input reads as it did. -/
def boxOrdersUptoRow : OpenClaim := { program := "ytnaioobndgflmaa", sum := "009ce0ed0d9fce150cdebecfdb85404aabf1059b712e0d2d74f160ad95359a18", func := "jacquard/jacquardlaw19.BoxOrders", spec := "boxOrders", apart := false, narrowed := true }
def BoxOrdersUptoSaid : Prop := boxOrdersUptoRow.holds Try.pinned (OpenSpec.upto boxOrdersSpec)

/-- 'jacquardlaw19.BoxPlays', WHERE WHAT IT READS IS OF BULK AT MOST 1048576: true; the input reads as it did. -/
def boxPlaysUptoRow : OpenClaim := { program := "ytnaioobndgflmaa", sum := "009ce0ed0d9fce150cdebecfdb85404aabf1059b712e0d2d74f160ad95359a18", func := "jacquard/jacquardlaw19.BoxPlays", spec := "boxPlays", apart := false, narrowed := true }
def BoxPlaysUptoSaid : Prop := boxPlaysUptoRow.holds Try.pinned (OpenSpec.upto boxPlaysSpec)

/-- 'jacquardlaw19.BoxBounds', WHERE WHAT IT READS IS OF BULK AT MOST 1048576: true; the input reads as it did. -/
def boxBoundsUptoRow : OpenClaim := { program := "ytnaioobndgflmaa", sum := "009ce0ed0d9fce150cdebecfdb85404aabf1059b712e0d2d74f160ad95359a18", func := "jacquard/jacquardlaw19.BoxBounds", spec := "boxBounds", apart := false, narrowed := true }
def BoxBoundsUptoSaid : Prop := boxBoundsUptoRow.holds Try.pinned (OpenSpec.upto boxBoundsSpec)

/-- 'jacquardlaw19.BoxFills', WHERE WHAT IT READS IS OF BULK AT MOST 1048576: true; the input reads as it did. -/
def boxFillsUptoRow : OpenClaim := { program := "ytnaioobndgflmaa", sum := "009ce0ed0d9fce150cdebecfdb85404aabf1059b712e0d2d74f160ad95359a18", func := "jacquard/jacquardlaw19.BoxFills", spec := "boxFills", apart := false, narrowed := true }
def BoxFillsUptoSaid : Prop := boxFillsUptoRow.holds Try.pinned (OpenSpec.upto boxFillsSpec)

end Rows
end Go.Proofs.Ytnaioobndgflmaa
