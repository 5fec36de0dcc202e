/-
  No cell of these rows narrows 'for every input' (looked for: loops, veiled, ifaces, maps, wideKeys, modest, calm, conditions, laid).
  DERIVED. THE GIVEN ROWS OF THIS SEAT. 6 by the template 'for every input the law returns true; each argument reads behind the call as it read before'; 0 by the template 'total and deterministic' (their statements: YteoomhkdffnkkaaTotals.lean).
  GIVEN WITH THE SEED: the statements are not yours to turn. If you find one false, say at which input.
  Laid BY PROGRAM, IN A SANDBOX (cutbox-rows.mjs): the forced cells as the released guide's own fill.sh prints them over the translation 99f3addc8548f8cb… (all of the seat's roots in one cut). By AI agents, Wed Nov 11 2026. No macro, syntax, notation, axiom, sorry.
-/
import Derived.Test.YteoomhkdffnkkaaChecked
import GoSem.Claim
import GoSem.ClaimJoined
import GoSem.ClaimMapViews
import Derived.JoinedTies
import Derived.KernelRfl
namespace Go.Proofs.Yteoomhkdffnkkaa
/- THE CELL 'sum', in the pinned program and in every row, IS THE sha256 OF THE DUMP (.gsa) THAT YteoomhkdffnkkaaProg.lean LOADS. Nothing in Lean hashes anything: it is a label: what it is worth is what the hold of that sum in a sandbox is worth. -/
noncomputable def Try.pinned : Pinned := { name := "yteoomhkdffnkkaa", sum := "99f3addc8548f8cb05a7724037f686463d811c69ac20dcf99150839727d547d5", checked := Try.checked }
namespace Rows
def none {H : Type} : Left H := { results := [], args := [] }

/-- 'jettylaw09.RingBlocks': WHATEVER THE INPUT: true; the input reads as it did. -/
def ringBlocksSpec : ChangeSpec := { name := "ringBlocks", fn := fun _ => fun
  | [d1, d2, d3] => { results := [.lit (.bool true)], args := [d1, d2, d3] }
  | _ => none }
def ringBlocksRow : OpenClaim := { program := "yteoomhkdffnkkaa", sum := "99f3addc8548f8cb05a7724037f686463d811c69ac20dcf99150839727d547d5", func := "jetty/jettylaw09.RingBlocks", spec := "ringBlocks", apart := false }
def RingBlocksSaid : Prop := ringBlocksRow.holds Try.pinned (OpenSpec.ofChange ringBlocksSpec)

/-- ITS FALSE NEIGHBOUR: 'it returns false'. Refute it at one input. -/
def ringBlocksWrong : ChangeSpec := { name := "ringBlocks", fn := fun _ => fun
  | [d1, d2, d3] => { results := [.lit (.bool false)], args := [d1, d2, d3] }
  | _ => none }
def RingBlocksWrongFalsely : Prop := ringBlocksRow.holds Try.pinned (OpenSpec.ofChange ringBlocksWrong)

/-- 'jettylaw09.RingNames': WHATEVER THE INPUT: true; the input reads as it did. -/
def ringNamesSpec : ChangeSpec := { name := "ringNames", fn := fun _ => fun
  | [] => { results := [.lit (.bool true)], args := [] }
  | _ => none }
def ringNamesRow : OpenClaim := { program := "yteoomhkdffnkkaa", sum := "99f3addc8548f8cb05a7724037f686463d811c69ac20dcf99150839727d547d5", func := "jetty/jettylaw09.RingNames", spec := "ringNames", unfollowed := true, recurses := true, apart := false }
def RingNamesSaid : Prop := ringNamesRow.holds Try.pinned (OpenSpec.ofChange ringNamesSpec)

/-- ITS FALSE NEIGHBOUR: 'it returns false'. Refute it at one input. -/
def ringNamesWrong : ChangeSpec := { name := "ringNames", fn := fun _ => fun
  | [] => { results := [.lit (.bool false)], args := [] }
  | _ => none }
def RingNamesWrongFalsely : Prop := ringNamesRow.holds Try.pinned (OpenSpec.ofChange ringNamesWrong)

/-- 'jettylaw09.RingBack': WHATEVER THE INPUT: true; the input reads as it did. -/
def ringBackSpec : ChangeSpec := { name := "ringBack", fn := fun _ => fun
  | [d1, d2, d3, d4] => { results := [.lit (.bool true)], args := [d1, d2, d3, d4] }
  | _ => none }
def ringBackRow : OpenClaim := { program := "yteoomhkdffnkkaa", sum := "99f3addc8548f8cb05a7724037f686463d811c69ac20dcf99150839727d547d5", func := "jetty/jettylaw09.RingBack", spec := "ringBack", unfollowed := true, recurses := true, apart := false }
def RingBackSaid : Prop := ringBackRow.holds Try.pinned (OpenSpec.ofChange ringBackSpec)

/-- ITS FALSE NEIGHBOUR: 'it returns false'. Refute it at one input. -/
def ringBackWrong : ChangeSpec := { name := "ringBack", fn := fun _ => fun
  | [d1, d2, d3, d4] => { results := [.lit (.bool false)], args := [d1, d2, d3, d4] }
  | _ => none }
def RingBackWrongFalsely : Prop := ringBackRow.holds Try.pinned (OpenSpec.ofChange ringBackWrong)

/-- 'jettylaw09.RingAny': WHATEVER THE INPUT: true; the input reads as it did. -/
def ringAnySpec : ChangeSpec := { name := "ringAny", fn := fun _ => fun
  | [d1, d2] => { results := [.lit (.bool true)], args := [d1, d2] }
  | _ => none }
def ringAnyRow : OpenClaim := { program := "yteoomhkdffnkkaa", sum := "99f3addc8548f8cb05a7724037f686463d811c69ac20dcf99150839727d547d5", func := "jetty/jettylaw09.RingAny", spec := "ringAny", unfollowed := true, recurses := true, apart := false }
def RingAnySaid : Prop := ringAnyRow.holds Try.pinned (OpenSpec.ofChange ringAnySpec)

/-- ITS FALSE NEIGHBOUR: 'it returns false'. Refute it at one input. -/
def ringAnyWrong : ChangeSpec := { name := "ringAny", fn := fun _ => fun
  | [d1, d2] => { results := [.lit (.bool false)], args := [d1, d2] }
  | _ => none }
def RingAnyWrongFalsely : Prop := ringAnyRow.holds Try.pinned (OpenSpec.ofChange ringAnyWrong)

/-- 'jettylaw09.RingPlays': WHATEVER THE INPUT: true; the input reads as it did. -/
def ringPlaysSpec : ChangeSpec := { name := "ringPlays", fn := fun _ => fun
  | [d] => { results := [.lit (.bool true)], args := [d] }
  | _ => none }
def ringPlaysRow : OpenClaim := { program := "yteoomhkdffnkkaa", sum := "99f3addc8548f8cb05a7724037f686463d811c69ac20dcf99150839727d547d5", func := "jetty/jettylaw09.RingPlays", spec := "ringPlays", inPlace := ["maps.clone"], unfollowed := true, recurses := true, apart := false }
def RingPlaysSaid : Prop := ringPlaysRow.holds Try.pinned (OpenSpec.ofChange ringPlaysSpec)

/-- ITS FALSE NEIGHBOUR: 'it returns false'. Refute it at one input. -/
def ringPlaysWrong : ChangeSpec := { name := "ringPlays", fn := fun _ => fun
  | [d] => { results := [.lit (.bool false)], args := [d] }
  | _ => none }
def RingPlaysWrongFalsely : Prop := ringPlaysRow.holds Try.pinned (OpenSpec.ofChange ringPlaysWrong)

/-- 'jettylaw09.RingTurns': WHATEVER THE INPUT: true; the input reads as it did. -/
def ringTurnsSpec : ChangeSpec := { name := "ringTurns", fn := fun _ => fun
  | [d1, d2, d3, d4, d5] => { results := [.lit (.bool true)], args := [d1, d2, d3, d4, d5] }
  | _ => none }
def ringTurnsRow : OpenClaim := { program := "yteoomhkdffnkkaa", sum := "99f3addc8548f8cb05a7724037f686463d811c69ac20dcf99150839727d547d5", func := "jetty/jettylaw09.RingTurns", spec := "ringTurns", inPlace := ["maps.clone"], unfollowed := true, recurses := true, apart := false }
def RingTurnsSaid : Prop := ringTurnsRow.holds Try.pinned (OpenSpec.ofChange ringTurnsSpec)

/-- ITS FALSE NEIGHBOUR: 'it returns false'. Refute it at one input. -/
def ringTurnsWrong : ChangeSpec := { name := "ringTurns", fn := fun _ => fun
  | [d1, d2, d3, d4, d5] => { results := [.lit (.bool false)], args := [d1, d2, d3, d4, d5] }
  | _ => none }
def RingTurnsWrongFalsely : Prop := ringTurnsRow.holds Try.pinned (OpenSpec.ofChange ringTurnsWrong)

/- THE SECOND FORM. 'bulk': how many values and letters a reading holds, each counted each time it is reached (what is shared counts as often as it is met; a slice's spare places count too). A statement '..UptoSaid' is the law's where the arguments, and the package variables that the reading takes, are together of bulk at most 1048576: NARROWER than '..Said'. Prove '..Said' where nothing that the law and all that it calls make is longer than what came in: it says more and counts as full. Else prove '..UptoSaid'. A law counts once. -/
mutual
def uptoBulk {H : Type} : DataW H → Nat
  | .lit (.string bytes) => bytes.length + 1
  | .lit _ => 1
  | .nil => 1
  | .ptr d => uptoBulk d + 1
  | .slice elems spare => uptoBulkAll elems + uptoBulkAll spare + 1
  | .agg parts => uptoBulkAll parts + 1
  | .iface _ d => uptoBulk d + 1
  | .map entries => uptoBulkEntries entries + 1
  | .held _ => 1
def uptoBulkAll {H : Type} : List (DataW H) → Nat
  | [] => 0
  | d :: r => uptoBulk d + uptoBulkAll r
def uptoBulkEntries {H : Type} : List (Lit × DataW H) → Nat
  | [] => 0
  | x :: r => uptoBulkEntry x + uptoBulkEntries r
def uptoBulkEntry {H : Type} : Lit × DataW H → Nat
  | (.string bytes, d) => bytes.length + uptoBulk d + 1
  | (_, d) => uptoBulk d + 1
 end
def uptoSmall : (H : Type) → List (DataW H) → Bool := fun _ ds => decide (uptoBulkAll ds ≤ 1048576)
def OpenSpec.upto (s : _root_.Go.ChangeSpec) : _root_.Go.OpenSpec := { _root_.Go.OpenSpec.ofChange s with cond := some uptoSmall }

/-- 'jettylaw09.RingBlocks', WHERE WHAT IT READS IS OF BULK AT MOST 1048576: true; the input reads as it did. -/
def ringBlocksUptoRow : OpenClaim := { program := "yteoomhkdffnkkaa", sum := "99f3addc8548f8cb05a7724037f686463d811c69ac20dcf99150839727d547d5", func := "jetty/jettylaw09.RingBlocks", spec := "ringBlocks", apart := false, narrowed := true }
def RingBlocksUptoSaid : Prop := ringBlocksUptoRow.holds Try.pinned (OpenSpec.upto ringBlocksSpec)

/-- 'jettylaw09.RingNames', WHERE WHAT IT READS IS OF BULK AT MOST 1048576: true; the input reads as it did. -/
def ringNamesUptoRow : OpenClaim := { program := "yteoomhkdffnkkaa", sum := "99f3addc8548f8cb05a7724037f686463d811c69ac20dcf99150839727d547d5", func := "jetty/jettylaw09.RingNames", spec := "ringNames", unfollowed := true, recurses := true, apart := false, narrowed := true }
def RingNamesUptoSaid : Prop := ringNamesUptoRow.holds Try.pinned (OpenSpec.upto ringNamesSpec)

/-- 'jettylaw09.RingBack', WHERE WHAT IT READS IS OF BULK AT MOST 1048576: true; the input reads as it did. -/
def ringBackUptoRow : OpenClaim := { program := "yteoomhkdffnkkaa", sum := "99f3addc8548f8cb05a7724037f686463d811c69ac20dcf99150839727d547d5", func := "jetty/jettylaw09.RingBack", spec := "ringBack", unfollowed := true, recurses := true, apart := false, narrowed := true }
def RingBackUptoSaid : Prop := ringBackUptoRow.holds Try.pinned (OpenSpec.upto ringBackSpec)

/-- 'jettylaw09.RingAny', WHERE WHAT IT READS IS OF BULK AT MOST 1048576: true; the input reads as it did. -/
def ringAnyUptoRow : OpenClaim := { program := "yteoomhkdffnkkaa", sum := "99f3addc8548f8cb05a7724037f686463d811c69ac20dcf99150839727d547d5", func := "jetty/jettylaw09.RingAny", spec := "ringAny", unfollowed := true, recurses := true, apart := false, narrowed := true }
def RingAnyUptoSaid : Prop := ringAnyUptoRow.holds Try.pinned (OpenSpec.upto ringAnySpec)

/-- 'jettylaw09.RingPlays', WHERE WHAT IT READS IS OF BULK AT MOST 1048576: true; the input reads as it did. -/
def ringPlaysUptoRow : OpenClaim := { program := "yteoomhkdffnkkaa", sum := "99f3addc8548f8cb05a7724037f686463d811c69ac20dcf99150839727d547d5", func := "jetty/jettylaw09.RingPlays", spec := "ringPlays", inPlace := ["maps.clone"], unfollowed := true, recurses := true, apart := false, narrowed := true }
def RingPlaysUptoSaid : Prop := ringPlaysUptoRow.holds Try.pinned (OpenSpec.upto ringPlaysSpec)

/-- 'jettylaw09.RingTurns', WHERE WHAT IT READS IS OF BULK AT MOST 1048576: true; the input reads as it did. -/
def ringTurnsUptoRow : OpenClaim := { program := "yteoomhkdffnkkaa", sum := "99f3addc8548f8cb05a7724037f686463d811c69ac20dcf99150839727d547d5", func := "jetty/jettylaw09.RingTurns", spec := "ringTurns", inPlace := ["maps.clone"], unfollowed := true, recurses := true, apart := false, narrowed := true }
def RingTurnsUptoSaid : Prop := ringTurnsUptoRow.holds Try.pinned (OpenSpec.upto ringTurnsSpec)

end Rows
end Go.Proofs.Yteoomhkdffnkkaa
