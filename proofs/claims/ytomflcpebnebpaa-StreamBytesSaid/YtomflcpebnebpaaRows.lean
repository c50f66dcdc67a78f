/-
  No cell of these rows narrows 'for every input' (looked for: loops, veiled, ifaces, maps, wideKeys, modest, calm, conditions, laid).
  DERIVED. THE GIVEN ROWS OF THIS SEAT. 6 by the template 'for every input the law returns true; each argument reads behind the call as it read before'; 0 by the template 'total and deterministic' (their statements: YtomflcpebnebpaaTotals.lean).
  GIVEN WITH THE SEED: the statements are not yours to turn. If you find one false, say at which input.
  Laid BY PROGRAM, IN A SANDBOX (cutbox-rows.mjs): the forced cells as the released guide's own fill.sh prints them over the translation b2c858f161d6d2fd… (all of the seat's roots in one cut). By AI agents, Wed Nov 11 2026. No macro, syntax, notation, axiom, sorry.
-/
import Derived.Test.YtomflcpebnebpaaChecked
import GoSem.Claim
import GoSem.ClaimJoined
import GoSem.ClaimMapViews
import Derived.JoinedTies
import Derived.KernelRfl
namespace Go.Proofs.Ytomflcpebnebpaa
/- THE CELL 'sum', in the pinned program and in every row, IS THE sha256 OF THE DUMP (.gsa) THAT YtomflcpebnebpaaProg.lean LOADS. Nothing in Lean hashes anything: it is a label: what it is worth is what the hold of that sum in a sandbox is worth. -/
noncomputable def Try.pinned : Pinned := { name := "ytomflcpebnebpaa", sum := "b2c858f161d6d2fd685109966775f027c99cc8edc3b998949cddb4f276049b8d", checked := Try.checked }
namespace Rows
def none {H : Type} : Left H := { results := [], args := [] }

/-- 'dovecotelaw05.StreamBlocks': WHATEVER THE INPUT: true; the input reads as it did. -/
def streamBlocksSpec : ChangeSpec := { name := "streamBlocks", fn := fun _ => fun
  | [d1, d2, d3] => { results := [.lit (.bool true)], args := [d1, d2, d3] }
  | _ => none }
def streamBlocksRow : OpenClaim := { program := "ytomflcpebnebpaa", sum := "b2c858f161d6d2fd685109966775f027c99cc8edc3b998949cddb4f276049b8d", func := "dovecote/dovecotelaw05.StreamBlocks", spec := "streamBlocks", inPlace := ["internal/abi.NoEscape"], apart := false }
def StreamBlocksSaid : Prop := streamBlocksRow.holds Try.pinned (OpenSpec.ofChange streamBlocksSpec)

/-- ITS FALSE NEIGHBOUR: 'it returns false'. Refute it at one input. -/
def streamBlocksWrong : ChangeSpec := { name := "streamBlocks", fn := fun _ => fun
  | [d1, d2, d3] => { results := [.lit (.bool false)], args := [d1, d2, d3] }
  | _ => none }
def StreamBlocksWrongFalsely : Prop := streamBlocksRow.holds Try.pinned (OpenSpec.ofChange streamBlocksWrong)

/-- 'dovecotelaw05.StreamXors': WHATEVER THE INPUT: true; the input reads as it did. -/
def streamXorsSpec : ChangeSpec := { name := "streamXors", fn := fun _ => fun
  | [d1, d2, d3] => { results := [.lit (.bool true)], args := [d1, d2, d3] }
  | _ => none }
def streamXorsRow : OpenClaim := { program := "ytomflcpebnebpaa", sum := "b2c858f161d6d2fd685109966775f027c99cc8edc3b998949cddb4f276049b8d", func := "dovecote/dovecotelaw05.StreamXors", spec := "streamXors", inPlace := ["internal/abi.NoEscape"], apart := false }
def StreamXorsSaid : Prop := streamXorsRow.holds Try.pinned (OpenSpec.ofChange streamXorsSpec)

/-- ITS FALSE NEIGHBOUR: 'it returns false'. Refute it at one input. -/
def streamXorsWrong : ChangeSpec := { name := "streamXors", fn := fun _ => fun
  | [d1, d2, d3] => { results := [.lit (.bool false)], args := [d1, d2, d3] }
  | _ => none }
def StreamXorsWrongFalsely : Prop := streamXorsRow.holds Try.pinned (OpenSpec.ofChange streamXorsWrong)

/-- 'dovecotelaw05.StreamTwice': WHATEVER THE INPUT: true; the input reads as it did. -/
def streamTwiceSpec : ChangeSpec := { name := "streamTwice", fn := fun _ => fun
  | [d1, d2, d3] => { results := [.lit (.bool true)], args := [d1, d2, d3] }
  | _ => none }
def streamTwiceRow : OpenClaim := { program := "ytomflcpebnebpaa", sum := "b2c858f161d6d2fd685109966775f027c99cc8edc3b998949cddb4f276049b8d", func := "dovecote/dovecotelaw05.StreamTwice", spec := "streamTwice", inPlace := ["internal/abi.NoEscape"], apart := false }
def StreamTwiceSaid : Prop := streamTwiceRow.holds Try.pinned (OpenSpec.ofChange streamTwiceSpec)

/-- ITS FALSE NEIGHBOUR: 'it returns false'. Refute it at one input. -/
def streamTwiceWrong : ChangeSpec := { name := "streamTwice", fn := fun _ => fun
  | [d1, d2, d3] => { results := [.lit (.bool false)], args := [d1, d2, d3] }
  | _ => none }
def StreamTwiceWrongFalsely : Prop := streamTwiceRow.holds Try.pinned (OpenSpec.ofChange streamTwiceWrong)

/-- 'dovecotelaw05.StreamGoes': WHATEVER THE INPUT: true; the input reads as it did. -/
def streamGoesSpec : ChangeSpec := { name := "streamGoes", fn := fun _ => fun
  | [d1, d2, d3] => { results := [.lit (.bool true)], args := [d1, d2, d3] }
  | _ => none }
def streamGoesRow : OpenClaim := { program := "ytomflcpebnebpaa", sum := "b2c858f161d6d2fd685109966775f027c99cc8edc3b998949cddb4f276049b8d", func := "dovecote/dovecotelaw05.StreamGoes", spec := "streamGoes", inPlace := ["internal/abi.NoEscape"], apart := false }
def StreamGoesSaid : Prop := streamGoesRow.holds Try.pinned (OpenSpec.ofChange streamGoesSpec)

/-- ITS FALSE NEIGHBOUR: 'it returns false'. Refute it at one input. -/
def streamGoesWrong : ChangeSpec := { name := "streamGoes", fn := fun _ => fun
  | [d1, d2, d3] => { results := [.lit (.bool false)], args := [d1, d2, d3] }
  | _ => none }
def StreamGoesWrongFalsely : Prop := streamGoesRow.holds Try.pinned (OpenSpec.ofChange streamGoesWrong)

/-- 'dovecotelaw05.StreamMixes': WHATEVER THE INPUT: true; the input reads as it did. -/
def streamMixesSpec : ChangeSpec := { name := "streamMixes", fn := fun _ => fun
  | [d1, d2, d3] => { results := [.lit (.bool true)], args := [d1, d2, d3] }
  | _ => none }
def streamMixesRow : OpenClaim := { program := "ytomflcpebnebpaa", sum := "b2c858f161d6d2fd685109966775f027c99cc8edc3b998949cddb4f276049b8d", func := "dovecote/dovecotelaw05.StreamMixes", spec := "streamMixes", inPlace := ["internal/abi.NoEscape"], apart := false }
def StreamMixesSaid : Prop := streamMixesRow.holds Try.pinned (OpenSpec.ofChange streamMixesSpec)

/-- ITS FALSE NEIGHBOUR: 'it returns false'. Refute it at one input. -/
def streamMixesWrong : ChangeSpec := { name := "streamMixes", fn := fun _ => fun
  | [d1, d2, d3] => { results := [.lit (.bool false)], args := [d1, d2, d3] }
  | _ => none }
def StreamMixesWrongFalsely : Prop := streamMixesRow.holds Try.pinned (OpenSpec.ofChange streamMixesWrong)

/-- 'dovecotelaw05.StreamBytes': WHATEVER THE INPUT: true; the input reads as it did. -/
def streamBytesSpec : ChangeSpec := { name := "streamBytes", fn := fun _ => fun
  | [d1, d2] => { results := [.lit (.bool true)], args := [d1, d2] }
  | _ => none }
def streamBytesRow : OpenClaim := { program := "ytomflcpebnebpaa", sum := "b2c858f161d6d2fd685109966775f027c99cc8edc3b998949cddb4f276049b8d", func := "dovecote/dovecotelaw05.StreamBytes", spec := "streamBytes", inPlace := ["internal/abi.NoEscape", "internal/bytealg.MakeNoZero"], apart := false }
def StreamBytesSaid : Prop := streamBytesRow.holds Try.pinned (OpenSpec.ofChange streamBytesSpec)

/-- ITS FALSE NEIGHBOUR: 'it returns false'. Refute it at one input. -/
def streamBytesWrong : ChangeSpec := { name := "streamBytes", fn := fun _ => fun
  | [d1, d2] => { results := [.lit (.bool false)], args := [d1, d2] }
  | _ => none }
def StreamBytesWrongFalsely : Prop := streamBytesRow.holds Try.pinned (OpenSpec.ofChange streamBytesWrong)

/- THE SECOND FORM. 'bulk': how many values and letters a reading holds, each counted each time it is reached (what is shared counts as often as it is met; a slice's spare places count too). A statement '..UptoSaid' is the law's where the arguments, and the package variables that the reading takes, are together of bulk at most 1048576: NARROWER than '..Said'. Prove '..Said' where nothing that the law and all that it calls make is longer than what came in: it says more and counts as full. Else prove '..UptoSaid'. A law counts once. -/
mutual
def uptoBulk {H : Type} : DataW H → Nat
  | .lit (.string bytes) => bytes.length + 1
  | .lit _ => 1
  | .nil => 1
  | .ptr d => uptoBulk d + 1
  | .slice elems spare => uptoBulkAll elems + uptoBulkAll spare + 1
  | .agg parts => uptoBulkAll parts + 1
  | .iface _ d => uptoBulk d + 1
  | .map entries => uptoBulkEntries entries + 1
  | .held _ => 1
def uptoBulkAll {H : Type} : List (DataW H) → Nat
  | [] => 0
  | d :: r => uptoBulk d + uptoBulkAll r
def uptoBulkEntries {H : Type} : List (Lit × DataW H) → Nat
  | [] => 0
  | x :: r => uptoBulkEntry x + uptoBulkEntries r
def uptoBulkEntry {H : Type} : Lit × DataW H → Nat
  | (.string bytes, d) => bytes.length + uptoBulk d + 1
  | (_, d) => uptoBulk d + 1
 end
def uptoSmall : (H : Type) → List (DataW H) → Bool := fun _ ds => decide (uptoBulkAll ds ≤ 1048576)
def OpenSpec.upto (s : _root_.Go.ChangeSpec) : _root_.Go.OpenSpec := { _root_.Go.OpenSpec.ofChange s with cond := some uptoSmall }

/-- 'dovecotelaw05.StreamBlocks', WHERE WHAT IT READS IS OF BULK AT MOST 1048576: true; the input reads as it did. -/
def streamBlocksUptoRow : OpenClaim := { program := "ytomflcpebnebpaa", sum := "b2c858f161d6d2fd685109966775f027c99cc8edc3b998949cddb4f276049b8d", func := "dovecote/dovecotelaw05.StreamBlocks", spec := "streamBlocks", inPlace := ["internal/abi.NoEscape"], apart := false, narrowed := true }
def StreamBlocksUptoSaid : Prop := streamBlocksUptoRow.holds Try.pinned (OpenSpec.upto streamBlocksSpec)

/-- 'dovecotelaw05.StreamXors', WHERE WHAT IT READS IS OF BULK AT MOST 1048576: true; the input reads as it did. -/
def streamXorsUptoRow : OpenClaim := { program := "ytomflcpebnebpaa", sum := "b2c858f161d6d2fd685109966775f027c99cc8edc3b998949cddb4f276049b8d", func := "dovecote/dovecotelaw05.StreamXors", spec := "streamXors", inPlace := ["internal/abi.NoEscape"], apart := false, narrowed := true }
def StreamXorsUptoSaid : Prop := streamXorsUptoRow.holds Try.pinned (OpenSpec.upto streamXorsSpec)

/-- 'dovecotelaw05.StreamTwice', WHERE WHAT IT READS IS OF BULK AT MOST 1048576: true; the input reads as it did. -/
def streamTwiceUptoRow : OpenClaim := { program := "ytomflcpebnebpaa", sum := "b2c858f161d6d2fd685109966775f027c99cc8edc3b998949cddb4f276049b8d", func := "dovecote/dovecotelaw05.StreamTwice", spec := "streamTwice", inPlace := ["internal/abi.NoEscape"], apart := false, narrowed := true }
def StreamTwiceUptoSaid : Prop := streamTwiceUptoRow.holds Try.pinned (OpenSpec.upto streamTwiceSpec)

/-- 'dovecotelaw05.StreamGoes', WHERE WHAT IT READS IS OF BULK AT MOST 1048576: true; the input reads as it did. -/
def streamGoesUptoRow : OpenClaim := { program := "ytomflcpebnebpaa", sum := "b2c858f161d6d2fd685109966775f027c99cc8edc3b998949cddb4f276049b8d", func := "dovecote/dovecotelaw05.StreamGoes", spec := "streamGoes", inPlace := ["internal/abi.NoEscape"], apart := false, narrowed := true }
def StreamGoesUptoSaid : Prop := streamGoesUptoRow.holds Try.pinned (OpenSpec.upto streamGoesSpec)

/-- 'dovecotelaw05.StreamMixes', WHERE WHAT IT READS IS OF BULK AT MOST 1048576: true; the input reads as it did. -/
def streamMixesUptoRow : OpenClaim := { program := "ytomflcpebnebpaa", sum := "b2c858f161d6d2fd685109966775f027c99cc8edc3b998949cddb4f276049b8d", func := "dovecote/dovecotelaw05.StreamMixes", spec := "streamMixes", inPlace := ["internal/abi.NoEscape"], apart := false, narrowed := true }
def StreamMixesUptoSaid : Prop := streamMixesUptoRow.holds Try.pinned (OpenSpec.upto streamMixesSpec)

/-- 'dovecotelaw05.StreamBytes', WHERE WHAT IT READS IS OF BULK AT MOST 1048576: true; the input reads as it did. -/
def streamBytesUptoRow : OpenClaim := { program := "ytomflcpebnebpaa", sum := "b2c858f161d6d2fd685109966775f027c99cc8edc3b998949cddb4f276049b8d", func := "dovecote/dovecotelaw05.StreamBytes", spec := "streamBytes", inPlace := ["internal/abi.NoEscape", "internal/bytealg.MakeNoZero"], apart := false, narrowed := true }
def StreamBytesUptoSaid : Prop := streamBytesUptoRow.holds Try.pinned (OpenSpec.upto streamBytesSpec)

end Rows
end Go.Proofs.Ytomflcpebnebpaa
