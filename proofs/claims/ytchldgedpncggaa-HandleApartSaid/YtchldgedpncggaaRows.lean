/-
  No cell of these rows narrows 'for every input' (looked for: loops, veiled, ifaces, maps, wideKeys, modest, calm, conditions, laid).
  DERIVED. THE GIVEN ROWS OF THIS SEAT. 6 by the template 'for every input the law returns true; each argument reads behind the call as it read before'; 0 by the template 'total and deterministic' (their statements: YtchldgedpncggaaTotals.lean).
  GIVEN WITH THE SEED: the statements are not yours to turn. If you find one false, say at which input.
  Laid BY PROGRAM, IN A SANDBOX (cutbox-rows.mjs): the forced cells as the released guide's own fill.sh prints them over the translation 9f9bbb04362a8979… (all of the seat's roots in one cut). By AI agents, Wed Nov 11 2026. No macro, syntax, notation, axiom, sorry.
-/
import Derived.Test.YtchldgedpncggaaChecked
import GoSem.Claim
import GoSem.ClaimJoined
import GoSem.ClaimMapViews
import Derived.JoinedTies
import Derived.KernelRfl
namespace Go.Proofs.Ytchldgedpncggaa
/- THE CELL 'sum', in the pinned program and in every row, IS THE sha256 OF THE DUMP (.gsa) THAT YtchldgedpncggaaProg.lean LOADS. Nothing in Lean hashes anything: it is a label: what it is worth is what the hold of that sum in a sandbox is worth. -/
noncomputable def Try.pinned : Pinned := { name := "ytchldgedpncggaa", sum := "9f9bbb04362a8979fc73182818e2c5d5cd6c68048ac54650db67caa43180bedb", checked := Try.checked }
namespace Rows
def none {H : Type} : Left H := { results := [], args := [] }

/-- 'jettylaw04.HandleBytes': WHATEVER THE INPUT: true; the input reads as it did. -/
def handleBytesSpec : ChangeSpec := { name := "handleBytes", fn := fun _ => fun
  | [d1, d2, d3] => { results := [.lit (.bool true)], args := [d1, d2, d3] }
  | _ => none }
def handleBytesRow : OpenClaim := { program := "ytchldgedpncggaa", sum := "9f9bbb04362a8979fc73182818e2c5d5cd6c68048ac54650db67caa43180bedb", func := "jetty/jettylaw04.HandleBytes", spec := "handleBytes", apart := false }
def HandleBytesSaid : Prop := handleBytesRow.holds Try.pinned (OpenSpec.ofChange handleBytesSpec)

/-- ITS FALSE NEIGHBOUR: 'it returns false'. Refute it at one input. -/
def handleBytesWrong : ChangeSpec := { name := "handleBytes", fn := fun _ => fun
  | [d1, d2, d3] => { results := [.lit (.bool false)], args := [d1, d2, d3] }
  | _ => none }
def HandleBytesWrongFalsely : Prop := handleBytesRow.holds Try.pinned (OpenSpec.ofChange handleBytesWrong)

/-- 'jettylaw04.HandleNames': WHATEVER THE INPUT: true; the input reads as it did. -/
def handleNamesSpec : ChangeSpec := { name := "handleNames", fn := fun _ => fun
  | [] => { results := [.lit (.bool true)], args := [] }
  | _ => none }
def handleNamesRow : OpenClaim := { program := "ytchldgedpncggaa", sum := "9f9bbb04362a8979fc73182818e2c5d5cd6c68048ac54650db67caa43180bedb", func := "jetty/jettylaw04.HandleNames", spec := "handleNames", apart := false }
def HandleNamesSaid : Prop := handleNamesRow.holds Try.pinned (OpenSpec.ofChange handleNamesSpec)

/-- ITS FALSE NEIGHBOUR: 'it returns false'. Refute it at one input. -/
def handleNamesWrong : ChangeSpec := { name := "handleNames", fn := fun _ => fun
  | [] => { results := [.lit (.bool false)], args := [] }
  | _ => none }
def HandleNamesWrongFalsely : Prop := handleNamesRow.holds Try.pinned (OpenSpec.ofChange handleNamesWrong)

/-- 'jettylaw04.HandleBack': WHATEVER THE INPUT: true; the input reads as it did. -/
def handleBackSpec : ChangeSpec := { name := "handleBack", fn := fun _ => fun
  | [d1, d2] => { results := [.lit (.bool true)], args := [d1, d2] }
  | _ => none }
def handleBackRow : OpenClaim := { program := "ytchldgedpncggaa", sum := "9f9bbb04362a8979fc73182818e2c5d5cd6c68048ac54650db67caa43180bedb", func := "jetty/jettylaw04.HandleBack", spec := "handleBack", apart := false }
def HandleBackSaid : Prop := handleBackRow.holds Try.pinned (OpenSpec.ofChange handleBackSpec)

/-- ITS FALSE NEIGHBOUR: 'it returns false'. Refute it at one input. -/
def handleBackWrong : ChangeSpec := { name := "handleBack", fn := fun _ => fun
  | [d1, d2] => { results := [.lit (.bool false)], args := [d1, d2] }
  | _ => none }
def HandleBackWrongFalsely : Prop := handleBackRow.holds Try.pinned (OpenSpec.ofChange handleBackWrong)

/-- 'jettylaw04.HandleBit': WHATEVER THE INPUT: true; the input reads as it did. -/
def handleBitSpec : ChangeSpec := { name := "handleBit", fn := fun _ => fun
  | [d1, d2, d3] => { results := [.lit (.bool true)], args := [d1, d2, d3] }
  | _ => none }
def handleBitRow : OpenClaim := { program := "ytchldgedpncggaa", sum := "9f9bbb04362a8979fc73182818e2c5d5cd6c68048ac54650db67caa43180bedb", func := "jetty/jettylaw04.HandleBit", spec := "handleBit", apart := false }
def HandleBitSaid : Prop := handleBitRow.holds Try.pinned (OpenSpec.ofChange handleBitSpec)

/-- ITS FALSE NEIGHBOUR: 'it returns false'. Refute it at one input. -/
def handleBitWrong : ChangeSpec := { name := "handleBit", fn := fun _ => fun
  | [d1, d2, d3] => { results := [.lit (.bool false)], args := [d1, d2, d3] }
  | _ => none }
def HandleBitWrongFalsely : Prop := handleBitRow.holds Try.pinned (OpenSpec.ofChange handleBitWrong)

/-- 'jettylaw04.HandleOrder': WHATEVER THE INPUT: true; the input reads as it did. -/
def handleOrderSpec : ChangeSpec := { name := "handleOrder", fn := fun _ => fun
  | [d1, d2, d3] => { results := [.lit (.bool true)], args := [d1, d2, d3] }
  | _ => none }
def handleOrderRow : OpenClaim := { program := "ytchldgedpncggaa", sum := "9f9bbb04362a8979fc73182818e2c5d5cd6c68048ac54650db67caa43180bedb", func := "jetty/jettylaw04.HandleOrder", spec := "handleOrder", apart := false }
def HandleOrderSaid : Prop := handleOrderRow.holds Try.pinned (OpenSpec.ofChange handleOrderSpec)

/-- ITS FALSE NEIGHBOUR: 'it returns false'. Refute it at one input. -/
def handleOrderWrong : ChangeSpec := { name := "handleOrder", fn := fun _ => fun
  | [d1, d2, d3] => { results := [.lit (.bool false)], args := [d1, d2, d3] }
  | _ => none }
def HandleOrderWrongFalsely : Prop := handleOrderRow.holds Try.pinned (OpenSpec.ofChange handleOrderWrong)

/-- 'jettylaw04.HandleApart': WHATEVER THE INPUT: true; the input reads as it did. -/
def handleApartSpec : ChangeSpec := { name := "handleApart", fn := fun _ => fun
  | [d1, d2] => { results := [.lit (.bool true)], args := [d1, d2] }
  | _ => none }
def handleApartRow : OpenClaim := { program := "ytchldgedpncggaa", sum := "9f9bbb04362a8979fc73182818e2c5d5cd6c68048ac54650db67caa43180bedb", func := "jetty/jettylaw04.HandleApart", spec := "handleApart", apart := false }
def HandleApartSaid : Prop := handleApartRow.holds Try.pinned (OpenSpec.ofChange handleApartSpec)

/-- ITS FALSE NEIGHBOUR: 'it returns false'. Refute it at one input. -/
def handleApartWrong : ChangeSpec := { name := "handleApart", fn := fun _ => fun
  | [d1, d2] => { results := [.lit (.bool false)], args := [d1, d2] }
  | _ => none }
def HandleApartWrongFalsely : Prop := handleApartRow.holds Try.pinned (OpenSpec.ofChange handleApartWrong)

/- THE SECOND FORM. 'bulk': how many values and letters a reading holds, each counted each time it is reached (what is shared counts as often as it is met; a slice's spare places count too). A statement '..UptoSaid' is the law's where the arguments, and the package variables that the reading takes, are together of bulk at most 1048576: NARROWER than '..Said'. Prove '..Said' where nothing that the law and all that it calls make is longer than what came in: it says more and counts as full. Else prove '..UptoSaid'. A law counts once. -/
mutual
def uptoBulk {H : Type} : DataW H → Nat
  | .lit (.string bytes) => bytes.length + 1
  | .lit _ => 1
  | .nil => 1
  | .ptr d => uptoBulk d + 1
  | .slice elems spare => uptoBulkAll elems + uptoBulkAll spare + 1
  | .agg parts => uptoBulkAll parts + 1
  | .iface _ d => uptoBulk d + 1
  | .map entries => uptoBulkEntries entries + 1
  | .held _ => 1
def uptoBulkAll {H : Type} : List (DataW H) → Nat
  | [] => 0
  | d :: r => uptoBulk d + uptoBulkAll r
def uptoBulkEntries {H : Type} : List (Lit × DataW H) → Nat
  | [] => 0
  | x :: r => uptoBulkEntry x + uptoBulkEntries r
def uptoBulkEntry {H : Type} : Lit × DataW H → Nat
  | (.string bytes, d) => bytes.length + uptoBulk d + 1
  | (_, d) => uptoBulk d + 1
 end
def uptoSmall : (H : Type) → List (DataW H) → Bool := fun _ ds => decide (uptoBulkAll ds ≤ 1048576)
def OpenSpec.upto (s : _root_.Go.ChangeSpec) : _root_.Go.OpenSpec := { _root_.Go.OpenSpec.ofChange s with cond := some uptoSmall }

/-- 'jettylaw04.HandleBytes', WHERE WHAT IT READS IS OF BULK AT MOST 1048576: true; the input reads as it did. -/
def handleBytesUptoRow : OpenClaim := { program := "ytchldgedpncggaa", sum := "9f9bbb04362a8979fc73182818e2c5d5cd6c68048ac54650db67caa43180bedb", func := "jetty/jettylaw04.HandleBytes", spec := "handleBytes", apart := false, narrowed := true }
def HandleBytesUptoSaid : Prop := handleBytesUptoRow.holds Try.pinned (OpenSpec.upto handleBytesSpec)

/-- 'jettylaw04.HandleNames', WHERE WHAT IT READS IS OF BULK AT MOST 1048576: true; the input reads as it did. -/
def handleNamesUptoRow : OpenClaim := { program := "ytchldgedpncggaa", sum := "9f9bbb04362a8979fc73182818e2c5d5cd6c68048ac54650db67caa43180bedb", func := "jetty/jettylaw04.HandleNames", spec := "handleNames", apart := false, narrowed := true }
def HandleNamesUptoSaid : Prop := handleNamesUptoRow.holds Try.pinned (OpenSpec.upto handleNamesSpec)

/-- 'jettylaw04.HandleBack', WHERE WHAT IT READS IS OF BULK AT MOST 1048576: true; the input reads as it did. -/
def handleBackUptoRow : OpenClaim := { program := "ytchldgedpncggaa", sum := "9f9bbb04362a8979fc73182818e2c5d5cd6c68048ac54650db67caa43180bedb", func := "jetty/jettylaw04.HandleBack", spec := "handleBack", apart := false, narrowed := true }
def HandleBackUptoSaid : Prop := handleBackUptoRow.holds Try.pinned (OpenSpec.upto handleBackSpec)

/-- 'jettylaw04.HandleBit', WHERE WHAT IT READS IS OF BULK AT MOST 1048576: true; the input reads as it did. -/
def handleBitUptoRow : OpenClaim := { program := "ytchldgedpncggaa", sum := "9f9bbb04362a8979fc73182818e2c5d5cd6c68048ac54650db67caa43180bedb", func := "jetty/jettylaw04.HandleBit", spec := "handleBit", apart := false, narrowed := true }
def HandleBitUptoSaid : Prop := handleBitUptoRow.holds Try.pinned (OpenSpec.upto handleBitSpec)

/-- 'jettylaw04.HandleOrder', WHERE WHAT IT READS IS OF BULK AT MOST 1048576: true; the input reads as it did. -/
def handleOrderUptoRow : OpenClaim := { program := "ytchldgedpncggaa", sum := "9f9bbb04362a8979fc73182818e2c5d5cd6c68048ac54650db67caa43180bedb", func := "jetty/jettylaw04.HandleOrder", spec := "handleOrder", apart := false, narrowed := true }
def HandleOrderUptoSaid : Prop := handleOrderUptoRow.holds Try.pinned (OpenSpec.upto handleOrderSpec)

/-- 'jettylaw04.HandleApart', WHERE WHAT IT READS IS OF BULK AT MOST 1048576: true; the input reads as it did. -/
def handleApartUptoRow : OpenClaim := { program := "ytchldgedpncggaa", sum := "9f9bbb04362a8979fc73182818e2c5d5cd6c68048ac54650db67caa43180bedb", func := "jetty/jettylaw04.HandleApart", spec := "handleApart", apart := false, narrowed := true }
def HandleApartUptoSaid : Prop := handleApartUptoRow.holds Try.pinned (OpenSpec.upto handleApartSpec)

end Rows
end Go.Proofs.Ytchldgedpncggaa
