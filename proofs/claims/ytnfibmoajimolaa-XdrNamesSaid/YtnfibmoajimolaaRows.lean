/-
  No cell of these rows narrows 'for every input' (looked for: loops, veiled, ifaces, maps, wideKeys, modest, calm, conditions, laid).
  DERIVED. THE GIVEN ROWS OF THIS SEAT. 6 by the template 'for every input the law returns true; each argument reads behind the call as it read before'; 0 by the template 'total and deterministic' (their statements: YtnfibmoajimolaaTotals.lean).
  GIVEN WITH THE SEED: the statements are not yours to turn. If you find one false, say at which input.
  Laid BY PROGRAM, IN A SANDBOX (cutbox-rows.mjs): the forced cells as the released guide's own fill.sh prints them over the translation 5c2ebd1ac494daf2… (all of the seat's roots in one cut). By AI agents, Wed Nov 11 2026. No macro, syntax, notation, axiom, sorry.
-/
import Derived.Test.YtnfibmoajimolaaChecked
import GoSem.Claim
import GoSem.ClaimJoined
import GoSem.ClaimMapViews
import Derived.JoinedTies
import Derived.KernelRfl
namespace Go.Proofs.Ytnfibmoajimolaa
/- THE CELL 'sum', in the pinned program and in every row, IS THE sha256 OF THE DUMP (.gsa) THAT YtnfibmoajimolaaProg.lean LOADS. Nothing in Lean hashes anything: it is a label: what it is worth is what the hold of that sum in a sandbox is worth. -/
noncomputable def Try.pinned : Pinned := { name := "ytnfibmoajimolaa", sum := "5c2ebd1ac494daf2276fcc76dd66c188a8adbd8ba062b5d510e88efe8026ca56", checked := Try.checked }
namespace Rows
def none {H : Type} : Left H := { results := [], args := [] }

/-- 'jettylaw01.XdrWrites': WHATEVER THE INPUT: true; the input reads as it did. -/
def xdrWritesSpec : ChangeSpec := { name := "xdrWrites", fn := fun _ => fun
  | [d1, d2, d3, d4] => { results := [.lit (.bool true)], args := [d1, d2, d3, d4] }
  | _ => none }
def xdrWritesRow : OpenClaim := { program := "ytnfibmoajimolaa", sum := "5c2ebd1ac494daf2276fcc76dd66c188a8adbd8ba062b5d510e88efe8026ca56", func := "jetty/jettylaw01.XdrWrites", spec := "xdrWrites", apart := false }
def XdrWritesSaid : Prop := xdrWritesRow.holds Try.pinned (OpenSpec.ofChange xdrWritesSpec)

/-- ITS FALSE NEIGHBOUR: 'it returns false'. Refute it at one input. -/
def xdrWritesWrong : ChangeSpec := { name := "xdrWrites", fn := fun _ => fun
  | [d1, d2, d3, d4] => { results := [.lit (.bool false)], args := [d1, d2, d3, d4] }
  | _ => none }
def XdrWritesWrongFalsely : Prop := xdrWritesRow.holds Try.pinned (OpenSpec.ofChange xdrWritesWrong)

/-- 'jettylaw01.XdrRow': WHATEVER THE INPUT: true; the input reads as it did. -/
def xdrRowSpec : ChangeSpec := { name := "xdrRow", fn := fun _ => fun
  | [d1, d2] => { results := [.lit (.bool true)], args := [d1, d2] }
  | _ => none }
def xdrRowRow : OpenClaim := { program := "ytnfibmoajimolaa", sum := "5c2ebd1ac494daf2276fcc76dd66c188a8adbd8ba062b5d510e88efe8026ca56", func := "jetty/jettylaw01.XdrRow", spec := "xdrRow", apart := false }
def XdrRowSaid : Prop := xdrRowRow.holds Try.pinned (OpenSpec.ofChange xdrRowSpec)

/-- ITS FALSE NEIGHBOUR: 'it returns false'. Refute it at one input. -/
def xdrRowWrong : ChangeSpec := { name := "xdrRow", fn := fun _ => fun
  | [d1, d2] => { results := [.lit (.bool false)], args := [d1, d2] }
  | _ => none }
def XdrRowWrongFalsely : Prop := xdrRowRow.holds Try.pinned (OpenSpec.ofChange xdrRowWrong)

/-- 'jettylaw01.XdrBad': WHATEVER THE INPUT: true; the input reads as it did. -/
def xdrBadSpec : ChangeSpec := { name := "xdrBad", fn := fun _ => fun
  | [d1, d2] => { results := [.lit (.bool true)], args := [d1, d2] }
  | _ => none }
def xdrBadRow : OpenClaim := { program := "ytnfibmoajimolaa", sum := "5c2ebd1ac494daf2276fcc76dd66c188a8adbd8ba062b5d510e88efe8026ca56", func := "jetty/jettylaw01.XdrBad", spec := "xdrBad", apart := false }
def XdrBadSaid : Prop := xdrBadRow.holds Try.pinned (OpenSpec.ofChange xdrBadSpec)

/-- ITS FALSE NEIGHBOUR: 'it returns false'. Refute it at one input. -/
def xdrBadWrong : ChangeSpec := { name := "xdrBad", fn := fun _ => fun
  | [d1, d2] => { results := [.lit (.bool false)], args := [d1, d2] }
  | _ => none }
def XdrBadWrongFalsely : Prop := xdrBadRow.holds Try.pinned (OpenSpec.ofChange xdrBadWrong)

/-- 'jettylaw01.XdrNames': WHATEVER THE INPUT: true; the input reads as it did. -/
def xdrNamesSpec : ChangeSpec := { name := "xdrNames", fn := fun _ => fun
  | [] => { results := [.lit (.bool true)], args := [] }
  | _ => none }
def xdrNamesRow : OpenClaim := { program := "ytnfibmoajimolaa", sum := "5c2ebd1ac494daf2276fcc76dd66c188a8adbd8ba062b5d510e88efe8026ca56", func := "jetty/jettylaw01.XdrNames", spec := "xdrNames", apart := false }
def XdrNamesSaid : Prop := xdrNamesRow.holds Try.pinned (OpenSpec.ofChange xdrNamesSpec)

/-- ITS FALSE NEIGHBOUR: 'it returns false'. Refute it at one input. -/
def xdrNamesWrong : ChangeSpec := { name := "xdrNames", fn := fun _ => fun
  | [] => { results := [.lit (.bool false)], args := [] }
  | _ => none }
def XdrNamesWrongFalsely : Prop := xdrNamesRow.holds Try.pinned (OpenSpec.ofChange xdrNamesWrong)

/-- 'jettylaw01.XdrBack': WHATEVER THE INPUT: true; the input reads as it did. -/
def xdrBackSpec : ChangeSpec := { name := "xdrBack", fn := fun _ => fun
  | [d1, d2, d3, d4, d5] => { results := [.lit (.bool true)], args := [d1, d2, d3, d4, d5] }
  | _ => none }
def xdrBackRow : OpenClaim := { program := "ytnfibmoajimolaa", sum := "5c2ebd1ac494daf2276fcc76dd66c188a8adbd8ba062b5d510e88efe8026ca56", func := "jetty/jettylaw01.XdrBack", spec := "xdrBack", apart := false }
def XdrBackSaid : Prop := xdrBackRow.holds Try.pinned (OpenSpec.ofChange xdrBackSpec)

/-- ITS FALSE NEIGHBOUR: 'it returns false'. Refute it at one input. -/
def xdrBackWrong : ChangeSpec := { name := "xdrBack", fn := fun _ => fun
  | [d1, d2, d3, d4, d5] => { results := [.lit (.bool false)], args := [d1, d2, d3, d4, d5] }
  | _ => none }
def XdrBackWrongFalsely : Prop := xdrBackRow.holds Try.pinned (OpenSpec.ofChange xdrBackWrong)

/-- 'jettylaw01.XdrOnly': WHATEVER THE INPUT: true; the input reads as it did. -/
def xdrOnlySpec : ChangeSpec := { name := "xdrOnly", fn := fun _ => fun
  | [d1, d2] => { results := [.lit (.bool true)], args := [d1, d2] }
  | _ => none }
def xdrOnlyRow : OpenClaim := { program := "ytnfibmoajimolaa", sum := "5c2ebd1ac494daf2276fcc76dd66c188a8adbd8ba062b5d510e88efe8026ca56", func := "jetty/jettylaw01.XdrOnly", spec := "xdrOnly", apart := false }
def XdrOnlySaid : Prop := xdrOnlyRow.holds Try.pinned (OpenSpec.ofChange xdrOnlySpec)

/-- ITS FALSE NEIGHBOUR: 'it returns false'. Refute it at one input. -/
def xdrOnlyWrong : ChangeSpec := { name := "xdrOnly", fn := fun _ => fun
  | [d1, d2] => { results := [.lit (.bool false)], args := [d1, d2] }
  | _ => none }
def XdrOnlyWrongFalsely : Prop := xdrOnlyRow.holds Try.pinned (OpenSpec.ofChange xdrOnlyWrong)

/- THE SECOND FORM. 'bulk': how many values and letters a reading holds, each counted each time it is reached (what is shared counts as often as it is met; a slice's spare places count too). A statement '..UptoSaid' is the law's where the arguments, and the package variables that the reading takes, are together of bulk at most 1048576: NARROWER than '..Said'. Prove '..Said' where nothing that the law and all that it calls make is longer than what came in: it says more and counts as full. Else prove '..UptoSaid'. A law counts once. -/
mutual
def uptoBulk {H : Type} : DataW H → Nat
  | .lit (.string bytes) => bytes.length + 1
  | .lit _ => 1
  | .nil => 1
  | .ptr d => uptoBulk d + 1
  | .slice elems spare => uptoBulkAll elems + uptoBulkAll spare + 1
  | .agg parts => uptoBulkAll parts + 1
  | .iface _ d => uptoBulk d + 1
  | .map entries => uptoBulkEntries entries + 1
  | .held _ => 1
def uptoBulkAll {H : Type} : List (DataW H) → Nat
  | [] => 0
  | d :: r => uptoBulk d + uptoBulkAll r
def uptoBulkEntries {H : Type} : List (Lit × DataW H) → Nat
  | [] => 0
  | x :: r => uptoBulkEntry x + uptoBulkEntries r
def uptoBulkEntry {H : Type} : Lit × DataW H → Nat
  | (.string bytes, d) => bytes.length + uptoBulk d + 1
  | (_, d) => uptoBulk d + 1
 end
def uptoSmall : (H : Type) → List (DataW H) → Bool := fun _ ds => decide (uptoBulkAll ds ≤ 1048576)
def OpenSpec.upto (s : _root_.Go.ChangeSpec) : _root_.Go.OpenSpec := { _root_.Go.OpenSpec.ofChange s with cond := some uptoSmall }

/-- 'jettylaw01.XdrWrites', WHERE WHAT IT READS IS OF BULK AT MOST 1048576: true; the input reads as it did. -/
def xdrWritesUptoRow : OpenClaim := { program := "ytnfibmoajimolaa", sum := "5c2ebd1ac494daf2276fcc76dd66c188a8adbd8ba062b5d510e88efe8026ca56", func := "jetty/jettylaw01.XdrWrites", spec := "xdrWrites", apart := false, narrowed := true }
def XdrWritesUptoSaid : Prop := xdrWritesUptoRow.holds Try.pinned (OpenSpec.upto xdrWritesSpec)

/-- 'jettylaw01.XdrRow', WHERE WHAT IT READS IS OF BULK AT MOST 1048576: true; the input reads as it did. -/
def xdrRowUptoRow : OpenClaim := { program := "ytnfibmoajimolaa", sum := "5c2ebd1ac494daf2276fcc76dd66c188a8adbd8ba062b5d510e88efe8026ca56", func := "jetty/jettylaw01.XdrRow", spec := "xdrRow", apart := false, narrowed := true }
def XdrRowUptoSaid : Prop := xdrRowUptoRow.holds Try.pinned (OpenSpec.upto xdrRowSpec)

/-- 'jettylaw01.XdrBad', WHERE WHAT IT READS IS OF BULK AT MOST 1048576: true; the input reads as it did. -/
def xdrBadUptoRow : OpenClaim := { program := "ytnfibmoajimolaa", sum := "5c2ebd1ac494daf2276fcc76dd66c188a8adbd8ba062b5d510e88efe8026ca56", func := "jetty/jettylaw01.XdrBad", spec := "xdrBad", apart := false, narrowed := true }
def XdrBadUptoSaid : Prop := xdrBadUptoRow.holds Try.pinned (OpenSpec.upto xdrBadSpec)

/-- 'jettylaw01.XdrNames', WHERE WHAT IT READS IS OF BULK AT MOST 1048576: true; the input reads as it did. -/
def xdrNamesUptoRow : OpenClaim := { program := "ytnfibmoajimolaa", sum := "5c2ebd1ac494daf2276fcc76dd66c188a8adbd8ba062b5d510e88efe8026ca56", func := "jetty/jettylaw01.XdrNames", spec := "xdrNames", apart := false, narrowed := true }
def XdrNamesUptoSaid : Prop := xdrNamesUptoRow.holds Try.pinned (OpenSpec.upto xdrNamesSpec)

/-- 'jettylaw01.XdrBack', WHERE WHAT IT READS IS OF BULK AT MOST 1048576: true; the input reads as it did. -/
def xdrBackUptoRow : OpenClaim := { program := "ytnfibmoajimolaa", sum := "5c2ebd1ac494daf2276fcc76dd66c188a8adbd8ba062b5d510e88efe8026ca56", func := "jetty/jettylaw01.XdrBack", spec := "xdrBack", apart := false, narrowed := true }
def XdrBackUptoSaid : Prop := xdrBackUptoRow.holds Try.pinned (OpenSpec.upto xdrBackSpec)

/-- 'jettylaw01.XdrOnly', WHERE WHAT IT READS IS OF BULK AT MOST 1048576: true; the input reads as it did. -/
def xdrOnlyUptoRow : OpenClaim := { program := "ytnfibmoajimolaa", sum := "5c2ebd1ac494daf2276fcc76dd66c188a8adbd8ba062b5d510e88efe8026ca56", func := "jetty/jettylaw01.XdrOnly", spec := "xdrOnly", apart := false, narrowed := true }
def XdrOnlyUptoSaid : Prop := xdrOnlyUptoRow.holds Try.pinned (OpenSpec.upto xdrOnlySpec)

end Rows
end Go.Proofs.Ytnfibmoajimolaa
