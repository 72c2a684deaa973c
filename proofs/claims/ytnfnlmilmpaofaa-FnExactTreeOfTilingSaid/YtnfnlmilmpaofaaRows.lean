/-
  No cell of these rows narrows 'for every input' (looked for: loops, veiled, ifaces, maps, wideKeys, modest, calm, conditions, laid).
  DERIVED. THE GIVEN ROWS OF THIS SEAT. 7 by the template 'for every input the law returns true; each argument reads behind the call as it read before'; 0 by the template 'total and deterministic' (their statements: YtnfnlmilmpaofaaTotals.lean).
  GIVEN WITH THE SEED: the statements are not yours to turn. If you find one false, say at which input.
  Laid BY PROGRAM, IN A SANDBOX (cutbox-rows.mjs): the forced cells as the released guide's own fill.sh prints them over the translation 88d378cc19a76e7e… (all of the seat's roots in one cut). By AI agents, Wed Nov 11 2026. No macro, syntax, notation, axiom, sorry.
-/
import Derived.Test.YtnfnlmilmpaofaaChecked
import GoSem.Claim
import GoSem.ClaimJoined
import GoSem.ClaimMapViews
import Derived.JoinedTies
import Derived.KernelRfl
namespace Go.Proofs.Ytnfnlmilmpaofaa
/- THE CELL 'sum', in the pinned program and in every row, IS THE sha256 OF THE DUMP (.gsa) THAT YtnfnlmilmpaofaaProg.lean LOADS. Nothing in Lean hashes anything: it is a label: what it is worth is what the hold of that sum in a sandbox is worth. -/
noncomputable def Try.pinned : Pinned := { name := "ytnfnlmilmpaofaa", sum := "88d378cc19a76e7e8016f4fbc534d6a9846001209d4c8c5b2da1f0af2f5d0f57", checked := Try.checked }
namespace Rows
def none {H : Type} : Left H := { results := [], args := [] }

/-- 'laws.FnDiamonds': WHATEVER THE INPUT: true; the input reads as it did. -/
def fnDiamondsSpec : ChangeSpec := { name := "fnDiamonds", fn := fun _ => fun
  | [d] => { results := [.lit (.bool true)], args := [d] }
  | _ => none }
def fnDiamondsRow : OpenClaim := { program := "ytnfnlmilmpaofaa", sum := "88d378cc19a76e7e8016f4fbc534d6a9846001209d4c8c5b2da1f0af2f5d0f57", func := "loop.example/g03300/laws.FnDiamonds", spec := "fnDiamonds", apart := false }
def FnDiamondsSaid : Prop := fnDiamondsRow.holds Try.pinned (OpenSpec.ofChange fnDiamondsSpec)

/-- ITS FALSE NEIGHBOUR: 'it returns false'. Refute it at one input. -/
def fnDiamondsWrong : ChangeSpec := { name := "fnDiamonds", fn := fun _ => fun
  | [d] => { results := [.lit (.bool false)], args := [d] }
  | _ => none }
def FnDiamondsWrongFalsely : Prop := fnDiamondsRow.holds Try.pinned (OpenSpec.ofChange fnDiamondsWrong)

/-- 'laws.FnTemperley': WHATEVER THE INPUT: true; the input reads as it did. -/
def fnTemperleySpec : ChangeSpec := { name := "fnTemperley", fn := fun _ => fun
  | [d] => { results := [.lit (.bool true)], args := [d] }
  | _ => none }
def fnTemperleyRow : OpenClaim := { program := "ytnfnlmilmpaofaa", sum := "88d378cc19a76e7e8016f4fbc534d6a9846001209d4c8c5b2da1f0af2f5d0f57", func := "loop.example/g03300/laws.FnTemperley", spec := "fnTemperley", unfollowed := true, recurses := true, apart := false }
def FnTemperleySaid : Prop := fnTemperleyRow.holds Try.pinned (OpenSpec.ofChange fnTemperleySpec)

/-- ITS FALSE NEIGHBOUR: 'it returns false'. Refute it at one input. -/
def fnTemperleyWrong : ChangeSpec := { name := "fnTemperley", fn := fun _ => fun
  | [d] => { results := [.lit (.bool false)], args := [d] }
  | _ => none }
def FnTemperleyWrongFalsely : Prop := fnTemperleyRow.holds Try.pinned (OpenSpec.ofChange fnTemperleyWrong)

/-- 'laws.FnExactWeightedCount': WHATEVER THE INPUT: true; the input reads as it did. -/
def fnExactWeightedCountSpec : ChangeSpec := { name := "fnExactWeightedCount", fn := fun _ => fun
  | [d] => { results := [.lit (.bool true)], args := [d] }
  | _ => none }
def fnExactWeightedCountRow : OpenClaim := { program := "ytnfnlmilmpaofaa", sum := "88d378cc19a76e7e8016f4fbc534d6a9846001209d4c8c5b2da1f0af2f5d0f57", func := "loop.example/g03300/laws.FnExactWeightedCount", spec := "fnExactWeightedCount", unfollowed := true, recurses := true, apart := false }
def FnExactWeightedCountSaid : Prop := fnExactWeightedCountRow.holds Try.pinned (OpenSpec.ofChange fnExactWeightedCountSpec)

/-- ITS FALSE NEIGHBOUR: 'it returns false'. Refute it at one input. -/
def fnExactWeightedCountWrong : ChangeSpec := { name := "fnExactWeightedCount", fn := fun _ => fun
  | [d] => { results := [.lit (.bool false)], args := [d] }
  | _ => none }
def FnExactWeightedCountWrongFalsely : Prop := fnExactWeightedCountRow.holds Try.pinned (OpenSpec.ofChange fnExactWeightedCountWrong)

/-- 'laws.FnExactTilingOfTree': WHATEVER THE INPUT: true; the input reads as it did. -/
def fnExactTilingOfTreeSpec : ChangeSpec := { name := "fnExactTilingOfTree", fn := fun _ => fun
  | [d1, d2, d3] => { results := [.lit (.bool true)], args := [d1, d2, d3] }
  | _ => none }
def fnExactTilingOfTreeRow : OpenClaim := { program := "ytnfnlmilmpaofaa", sum := "88d378cc19a76e7e8016f4fbc534d6a9846001209d4c8c5b2da1f0af2f5d0f57", func := "loop.example/g03300/laws.FnExactTilingOfTree", spec := "fnExactTilingOfTree", unfollowed := true, recurses := true, apart := false }
def FnExactTilingOfTreeSaid : Prop := fnExactTilingOfTreeRow.holds Try.pinned (OpenSpec.ofChange fnExactTilingOfTreeSpec)

/-- ITS FALSE NEIGHBOUR: 'it returns false'. Refute it at one input. -/
def fnExactTilingOfTreeWrong : ChangeSpec := { name := "fnExactTilingOfTree", fn := fun _ => fun
  | [d1, d2, d3] => { results := [.lit (.bool false)], args := [d1, d2, d3] }
  | _ => none }
def FnExactTilingOfTreeWrongFalsely : Prop := fnExactTilingOfTreeRow.holds Try.pinned (OpenSpec.ofChange fnExactTilingOfTreeWrong)

/-- 'laws.FnExactCountFixed': WHATEVER THE INPUT: true; the input reads as it did. -/
def fnExactCountFixedSpec : ChangeSpec := { name := "fnExactCountFixed", fn := fun _ => fun
  | [d1, d2, d3] => { results := [.lit (.bool true)], args := [d1, d2, d3] }
  | _ => none }
def fnExactCountFixedRow : OpenClaim := { program := "ytnfnlmilmpaofaa", sum := "88d378cc19a76e7e8016f4fbc534d6a9846001209d4c8c5b2da1f0af2f5d0f57", func := "loop.example/g03300/laws.FnExactCountFixed", spec := "fnExactCountFixed", unfollowed := true, recurses := true, apart := false }
def FnExactCountFixedSaid : Prop := fnExactCountFixedRow.holds Try.pinned (OpenSpec.ofChange fnExactCountFixedSpec)

/-- ITS FALSE NEIGHBOUR: 'it returns false'. Refute it at one input. -/
def fnExactCountFixedWrong : ChangeSpec := { name := "fnExactCountFixed", fn := fun _ => fun
  | [d1, d2, d3] => { results := [.lit (.bool false)], args := [d1, d2, d3] }
  | _ => none }
def FnExactCountFixedWrongFalsely : Prop := fnExactCountFixedRow.holds Try.pinned (OpenSpec.ofChange fnExactCountFixedWrong)

/-- 'laws.FnFaults': WHATEVER THE INPUT: true; the input reads as it did. -/
def fnFaultsSpec : ChangeSpec := { name := "fnFaults", fn := fun _ => fun
  | [d] => { results := [.lit (.bool true)], args := [d] }
  | _ => none }
def fnFaultsRow : OpenClaim := { program := "ytnfnlmilmpaofaa", sum := "88d378cc19a76e7e8016f4fbc534d6a9846001209d4c8c5b2da1f0af2f5d0f57", func := "loop.example/g03300/laws.FnFaults", spec := "fnFaults", unfollowed := true, recurses := true, apart := false }
def FnFaultsSaid : Prop := fnFaultsRow.holds Try.pinned (OpenSpec.ofChange fnFaultsSpec)

/-- ITS FALSE NEIGHBOUR: 'it returns false'. Refute it at one input. -/
def fnFaultsWrong : ChangeSpec := { name := "fnFaults", fn := fun _ => fun
  | [d] => { results := [.lit (.bool false)], args := [d] }
  | _ => none }
def FnFaultsWrongFalsely : Prop := fnFaultsRow.holds Try.pinned (OpenSpec.ofChange fnFaultsWrong)

/-- 'laws.FnExactTreeOfTiling': WHATEVER THE INPUT: true; the input reads as it did. -/
def fnExactTreeOfTilingSpec : ChangeSpec := { name := "fnExactTreeOfTiling", fn := fun _ => fun
  | [d1, d2, d3] => { results := [.lit (.bool true)], args := [d1, d2, d3] }
  | _ => none }
def fnExactTreeOfTilingRow : OpenClaim := { program := "ytnfnlmilmpaofaa", sum := "88d378cc19a76e7e8016f4fbc534d6a9846001209d4c8c5b2da1f0af2f5d0f57", func := "loop.example/g03300/laws.FnExactTreeOfTiling", spec := "fnExactTreeOfTiling", unfollowed := true, recurses := true, apart := false }
def FnExactTreeOfTilingSaid : Prop := fnExactTreeOfTilingRow.holds Try.pinned (OpenSpec.ofChange fnExactTreeOfTilingSpec)

/-- ITS FALSE NEIGHBOUR: 'it returns false'. Refute it at one input. -/
def fnExactTreeOfTilingWrong : ChangeSpec := { name := "fnExactTreeOfTiling", fn := fun _ => fun
  | [d1, d2, d3] => { results := [.lit (.bool false)], args := [d1, d2, d3] }
  | _ => none }
def FnExactTreeOfTilingWrongFalsely : Prop := fnExactTreeOfTilingRow.holds Try.pinned (OpenSpec.ofChange fnExactTreeOfTilingWrong)

/- THE SECOND FORM. 'bulk': how many values and letters a reading holds, each counted each time it is reached (what is shared counts as often as it is met; a slice's spare places count too). A statement '..UptoSaid' is the law's where the arguments, and the package variables that the reading takes, are together of bulk at most 1048576: NARROWER than '..Said'. Prove '..Said' where nothing that the law and all that it calls make is longer than what came in: it says more and counts as full. Else prove '..UptoSaid'. A law counts once. -/
mutual
def uptoBulk {H : Type} : DataW H → Nat
  | .lit (.string bytes) => bytes.length + 1
  | .lit _ => 1
  | .nil => 1
  | .ptr d => uptoBulk d + 1
  | .slice elems spare => uptoBulkAll elems + uptoBulkAll spare + 1
  | .agg parts => uptoBulkAll parts + 1
  | .iface _ d => uptoBulk d + 1
  | .map entries => uptoBulkEntries entries + 1
  | .held _ => 1
def uptoBulkAll {H : Type} : List (DataW H) → Nat
  | [] => 0
  | d :: r => uptoBulk d + uptoBulkAll r
def uptoBulkEntries {H : Type} : List (Lit × DataW H) → Nat
  | [] => 0
  | x :: r => uptoBulkEntry x + uptoBulkEntries r
def uptoBulkEntry {H : Type} : Lit × DataW H → Nat
  | (.string bytes, d) => bytes.length + uptoBulk d + 1
  | (_, d) => uptoBulk d + 1
 end
def uptoSmall : (H : Type) → List (DataW H) → Bool := fun _ ds => decide (uptoBulkAll ds ≤ 1048576)
def OpenSpec.upto (s : _root_.Go.ChangeSpec) : _root_.Go.OpenSpec := { _root_.Go.OpenSpec.ofChange s with cond := some uptoSmall }

/-- 'laws.FnDiamonds', WHERE WHAT IT READS IS OF BULK AT MOST 1048576: true; the input reads as it did. -/
def fnDiamondsUptoRow : OpenClaim := { program := "ytnfnlmilmpaofaa", sum := "88d378cc19a76e7e8016f4fbc534d6a9846001209d4c8c5b2da1f0af2f5d0f57", func := "loop.example/g03300/laws.FnDiamonds", spec := "fnDiamonds", apart := false, narrowed := true }
def FnDiamondsUptoSaid : Prop := fnDiamondsUptoRow.holds Try.pinned (OpenSpec.upto fnDiamondsSpec)

/-- 'laws.FnTemperley', WHERE WHAT IT READS IS OF BULK AT MOST 1048576: true; the input reads as it did. -/
def fnTemperleyUptoRow : OpenClaim := { program := "ytnfnlmilmpaofaa", sum := "88d378cc19a76e7e8016f4fbc534d6a9846001209d4c8c5b2da1f0af2f5d0f57", func := "loop.example/g03300/laws.FnTemperley", spec := "fnTemperley", unfollowed := true, recurses := true, apart := false, narrowed := true }
def FnTemperleyUptoSaid : Prop := fnTemperleyUptoRow.holds Try.pinned (OpenSpec.upto fnTemperleySpec)

/-- 'laws.FnExactWeightedCount', WHERE WHAT IT READS IS OF BULK AT MOST 1048576: true; the input reads as it did. -/
def fnExactWeightedCountUptoRow : OpenClaim := { program := "ytnfnlmilmpaofaa", sum := "88d378cc19a76e7e8016f4fbc534d6a9846001209d4c8c5b2da1f0af2f5d0f57", func := "loop.example/g03300/laws.FnExactWeightedCount", spec := "fnExactWeightedCount", unfollowed := true, recurses := true, apart := false, narrowed := true }
def FnExactWeightedCountUptoSaid : Prop := fnExactWeightedCountUptoRow.holds Try.pinned (OpenSpec.upto fnExactWeightedCountSpec)

/-- 'laws.FnExactTilingOfTree', WHERE WHAT IT READS IS OF BULK AT MOST 1048576: true; the input reads as it did. -/
def fnExactTilingOfTreeUptoRow : OpenClaim := { program := "ytnfnlmilmpaofaa", sum := "88d378cc19a76e7e8016f4fbc534d6a9846001209d4c8c5b2da1f0af2f5d0f57", func := "loop.example/g03300/laws.FnExactTilingOfTree", spec := "fnExactTilingOfTree", unfollowed := true, recurses := true, apart := false, narrowed := true }
def FnExactTilingOfTreeUptoSaid : Prop := fnExactTilingOfTreeUptoRow.holds Try.pinned (OpenSpec.upto fnExactTilingOfTreeSpec)

/-- 'laws.FnExactCountFixed', WHERE WHAT IT READS IS OF BULK AT MOST 1048576: true; the input reads as it did. -/
def fnExactCountFixedUptoRow : OpenClaim := { program := "ytnfnlmilmpaofaa", sum := "88d378cc19a76e7e8016f4fbc534d6a9846001209d4c8c5b2da1f0af2f5d0f57", func := "loop.example/g03300/laws.FnExactCountFixed", spec := "fnExactCountFixed", unfollowed := true, recurses := true, apart := false, narrowed := true }
def FnExactCountFixedUptoSaid : Prop := fnExactCountFixedUptoRow.holds Try.pinned (OpenSpec.upto fnExactCountFixedSpec)

/-- 'laws.FnFaults', WHERE WHAT IT READS IS OF BULK AT MOST 1048576: true; the input reads as it did. -/
def fnFaultsUptoRow : OpenClaim := { program := "ytnfnlmilmpaofaa", sum := "88d378cc19a76e7e8016f4fbc534d6a9846001209d4c8c5b2da1f0af2f5d0f57", func := "loop.example/g03300/laws.FnFaults", spec := "fnFaults", unfollowed := true, recurses := true, apart := false, narrowed := true }
def FnFaultsUptoSaid : Prop := fnFaultsUptoRow.holds Try.pinned (OpenSpec.upto fnFaultsSpec)

/-- 'laws.FnExactTreeOfTiling', WHERE WHAT IT READS IS OF BULK AT MOST 1048576: true; the input reads as it did. -/
def fnExactTreeOfTilingUptoRow : OpenClaim := { program := "ytnfnlmilmpaofaa", sum := "88d378cc19a76e7e8016f4fbc534d6a9846001209d4c8c5b2da1f0af2f5d0f57", func := "loop.example/g03300/laws.FnExactTreeOfTiling", spec := "fnExactTreeOfTiling", unfollowed := true, recurses := true, apart := false, narrowed := true }
def FnExactTreeOfTilingUptoSaid : Prop := fnExactTreeOfTilingUptoRow.holds Try.pinned (OpenSpec.upto fnExactTreeOfTilingSpec)

end Rows
end Go.Proofs.Ytnfnlmilmpaofaa
