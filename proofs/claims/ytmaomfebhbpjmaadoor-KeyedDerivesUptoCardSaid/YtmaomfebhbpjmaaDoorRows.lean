/-
  NARROWER THAN 'FOR EVERY INPUT', by the rows' own cells (each row's printed sentence says how): KeyedTags: laid · KeyedLong: laid · KeyedCuts: laid · KeyedSame: laid · KeyedBlocks: laid · KeyedDerives: laid · KeyedStarts: laid.
  DERIVED. THE GIVEN ROWS OF THIS SEAT. 7 by the template 'for every input the law returns true; each argument reads behind the call as it read before'; 0 by the template 'total and deterministic' (their statements: YtmaomfebhbpjmaaDoorTotals.lean).
  GIVEN WITH THE SEED: the statements are not yours to turn. If you find one false, say at which input.
  Laid BY PROGRAM, IN A SANDBOX (cutbox-rows.mjs): the forced cells as the released guide's own fill.sh prints them over the translation 40b99a7bba0bcf50… (all of the seat's roots in one cut). By AI agents, Wed Nov 11 2026. No macro, syntax, notation, axiom, sorry.
-/
import Derived.Test.YtmaomfebhbpjmaaDoorChecked
import GoSem.Claim
import GoSem.ClaimJoined
import GoSem.ClaimMapViews
import Derived.JoinedTies
import Derived.KernelRfl
namespace Go.Proofs.YtmaomfebhbpjmaaDoor
/- THE CELL 'sum', in the pinned program and in every row, IS THE sha256 OF THE DUMP (.gsa) THAT YtmaomfebhbpjmaaDoorProg.lean LOADS. Nothing in Lean hashes anything: it is a label: what it is worth is what the hold of that sum in a sandbox is worth. -/
noncomputable def Tryd.pinned : Pinned := { name := "ytmaomfebhbpjmaadoor", sum := "40b99a7bba0bcf50451673cbe47dbb6e7b1087b17ed71d35ff1396d7579f5d9f", checked := Tryd.checked }
namespace Rows
def none {H : Type} : Left H := { results := [], args := [] }

/- WHAT THE LISTED PACKAGE-LEVEL VARIABLES READ AS WHEN THE CALL BEGINS. Each datum BY PROGRAM (the guide's laid-datum.mjs) off the statement by which the dump's own 'gosem.cut.vars' lays the variable. In a bare row this is a premise. The card (YtmaomfebhbpjmaaDoorCards.lean) ties it to the program's text. -/
def laid_dovecote_hash_ks {H : Type} : DataW H := .agg [.lit (.int .u32 1116352408), .lit (.int .u32 1899447441), .lit (.int .u32 3049323471), .lit (.int .u32 3921009573), .lit (.int .u32 961987163), .lit (.int .u32 1508970993), .lit (.int .u32 2453635748), .lit (.int .u32 2870763221), .lit (.int .u32 3624381080), .lit (.int .u32 310598401), .lit (.int .u32 607225278), .lit (.int .u32 1426881987), .lit (.int .u32 1925078388), .lit (.int .u32 2162078206), .lit (.int .u32 2614888103), .lit (.int .u32 3248222580), .lit (.int .u32 3835390401), .lit (.int .u32 4022224774), .lit (.int .u32 264347078), .lit (.int .u32 604807628), .lit (.int .u32 770255983), .lit (.int .u32 1249150122), .lit (.int .u32 1555081692), .lit (.int .u32 1996064986), .lit (.int .u32 2554220882), .lit (.int .u32 2821834349), .lit (.int .u32 2952996808), .lit (.int .u32 3210313671), .lit (.int .u32 3336571891), .lit (.int .u32 3584528711), .lit (.int .u32 113926993), .lit (.int .u32 338241895), .lit (.int .u32 666307205), .lit (.int .u32 773529912), .lit (.int .u32 1294757372), .lit (.int .u32 1396182291), .lit (.int .u32 1695183700), .lit (.int .u32 1986661051), .lit (.int .u32 2177026350), .lit (.int .u32 2456956037), .lit (.int .u32 2730485921), .lit (.int .u32 2820302411), .lit (.int .u32 3259730800), .lit (.int .u32 3345764771), .lit (.int .u32 3516065817), .lit (.int .u32 3600352804), .lit (.int .u32 4094571909), .lit (.int .u32 275423344), .lit (.int .u32 430227734), .lit (.int .u32 506948616), .lit (.int .u32 659060556), .lit (.int .u32 883997877), .lit (.int .u32 958139571), .lit (.int .u32 1322822218), .lit (.int .u32 1537002063), .lit (.int .u32 1747873779), .lit (.int .u32 1955562222), .lit (.int .u32 2024104815), .lit (.int .u32 2227730452), .lit (.int .u32 2361852424), .lit (.int .u32 2428436474), .lit (.int .u32 2756734187), .lit (.int .u32 3204031479), .lit (.int .u32 3329325298)]

/-- 'dovecotelaw04.KeyedTags': WHATEVER THE INPUT: true; the input reads as it did. -/
def keyedTagsSpec : ChangeSpec := { name := "keyedTags", fn := fun _ => fun
  | [d1, d2] => { results := [.lit (.bool true)], args := [d1, d2] }
  | _ => none }
def keyedTagsRow : OpenClaim := { program := "ytmaomfebhbpjmaadoor", sum := "40b99a7bba0bcf50451673cbe47dbb6e7b1087b17ed71d35ff1396d7579f5d9f", func := "dovecote/dovecotelaw04.KeyedTags", spec := "keyedTags", inPlace := ["internal/abi.NoEscape", "internal/bytealg.MakeNoZero"], named := ["dovecote/hash.ks"], apart := false, laid := [("dovecote/hash.ks", laid_dovecote_hash_ks)] }
def KeyedTagsSaid : Prop := keyedTagsRow.holds Tryd.pinned (OpenSpec.ofChange keyedTagsSpec)

/-- ITS FALSE NEIGHBOUR: 'it returns false'. Refute it at one input. -/
def keyedTagsWrong : ChangeSpec := { name := "keyedTags", fn := fun _ => fun
  | [d1, d2] => { results := [.lit (.bool false)], args := [d1, d2] }
  | _ => none }
def KeyedTagsWrongFalsely : Prop := keyedTagsRow.holds Tryd.pinned (OpenSpec.ofChange keyedTagsWrong)

/-- 'dovecotelaw04.KeyedLong': WHATEVER THE INPUT: true; the input reads as it did. -/
def keyedLongSpec : ChangeSpec := { name := "keyedLong", fn := fun _ => fun
  | [d1, d2, d3] => { results := [.lit (.bool true)], args := [d1, d2, d3] }
  | _ => none }
def keyedLongRow : OpenClaim := { program := "ytmaomfebhbpjmaadoor", sum := "40b99a7bba0bcf50451673cbe47dbb6e7b1087b17ed71d35ff1396d7579f5d9f", func := "dovecote/dovecotelaw04.KeyedLong", spec := "keyedLong", inPlace := ["internal/abi.NoEscape", "internal/bytealg.MakeNoZero"], named := ["dovecote/hash.ks"], apart := false, laid := [("dovecote/hash.ks", laid_dovecote_hash_ks)] }
def KeyedLongSaid : Prop := keyedLongRow.holds Tryd.pinned (OpenSpec.ofChange keyedLongSpec)

/-- ITS FALSE NEIGHBOUR: 'it returns false'. Refute it at one input. -/
def keyedLongWrong : ChangeSpec := { name := "keyedLong", fn := fun _ => fun
  | [d1, d2, d3] => { results := [.lit (.bool false)], args := [d1, d2, d3] }
  | _ => none }
def KeyedLongWrongFalsely : Prop := keyedLongRow.holds Tryd.pinned (OpenSpec.ofChange keyedLongWrong)

/-- 'dovecotelaw04.KeyedCuts': WHATEVER THE INPUT: true; the input reads as it did. -/
def keyedCutsSpec : ChangeSpec := { name := "keyedCuts", fn := fun _ => fun
  | [d1, d2, d3] => { results := [.lit (.bool true)], args := [d1, d2, d3] }
  | _ => none }
def keyedCutsRow : OpenClaim := { program := "ytmaomfebhbpjmaadoor", sum := "40b99a7bba0bcf50451673cbe47dbb6e7b1087b17ed71d35ff1396d7579f5d9f", func := "dovecote/dovecotelaw04.KeyedCuts", spec := "keyedCuts", inPlace := ["internal/abi.NoEscape", "internal/bytealg.MakeNoZero"], named := ["dovecote/hash.ks"], apart := false, laid := [("dovecote/hash.ks", laid_dovecote_hash_ks)] }
def KeyedCutsSaid : Prop := keyedCutsRow.holds Tryd.pinned (OpenSpec.ofChange keyedCutsSpec)

/-- ITS FALSE NEIGHBOUR: 'it returns false'. Refute it at one input. -/
def keyedCutsWrong : ChangeSpec := { name := "keyedCuts", fn := fun _ => fun
  | [d1, d2, d3] => { results := [.lit (.bool false)], args := [d1, d2, d3] }
  | _ => none }
def KeyedCutsWrongFalsely : Prop := keyedCutsRow.holds Tryd.pinned (OpenSpec.ofChange keyedCutsWrong)

/-- 'dovecotelaw04.KeyedSame': WHATEVER THE INPUT: true; the input reads as it did. -/
def keyedSameSpec : ChangeSpec := { name := "keyedSame", fn := fun _ => fun
  | [d1, d2] => { results := [.lit (.bool true)], args := [d1, d2] }
  | _ => none }
def keyedSameRow : OpenClaim := { program := "ytmaomfebhbpjmaadoor", sum := "40b99a7bba0bcf50451673cbe47dbb6e7b1087b17ed71d35ff1396d7579f5d9f", func := "dovecote/dovecotelaw04.KeyedSame", spec := "keyedSame", inPlace := ["internal/abi.NoEscape", "internal/bytealg.MakeNoZero"], named := ["dovecote/hash.ks"], apart := false, laid := [("dovecote/hash.ks", laid_dovecote_hash_ks)] }
def KeyedSameSaid : Prop := keyedSameRow.holds Tryd.pinned (OpenSpec.ofChange keyedSameSpec)

/-- ITS FALSE NEIGHBOUR: 'it returns false'. Refute it at one input. -/
def keyedSameWrong : ChangeSpec := { name := "keyedSame", fn := fun _ => fun
  | [d1, d2] => { results := [.lit (.bool false)], args := [d1, d2] }
  | _ => none }
def KeyedSameWrongFalsely : Prop := keyedSameRow.holds Tryd.pinned (OpenSpec.ofChange keyedSameWrong)

/-- 'dovecotelaw04.KeyedBlocks': WHATEVER THE INPUT: true; the input reads as it did. -/
def keyedBlocksSpec : ChangeSpec := { name := "keyedBlocks", fn := fun _ => fun
  | [d1, d2, d3] => { results := [.lit (.bool true)], args := [d1, d2, d3] }
  | _ => none }
def keyedBlocksRow : OpenClaim := { program := "ytmaomfebhbpjmaadoor", sum := "40b99a7bba0bcf50451673cbe47dbb6e7b1087b17ed71d35ff1396d7579f5d9f", func := "dovecote/dovecotelaw04.KeyedBlocks", spec := "keyedBlocks", inPlace := ["internal/abi.NoEscape", "internal/bytealg.MakeNoZero"], named := ["dovecote/hash.ks"], apart := false, laid := [("dovecote/hash.ks", laid_dovecote_hash_ks)] }
def KeyedBlocksSaid : Prop := keyedBlocksRow.holds Tryd.pinned (OpenSpec.ofChange keyedBlocksSpec)

/-- ITS FALSE NEIGHBOUR: 'it returns false'. Refute it at one input. -/
def keyedBlocksWrong : ChangeSpec := { name := "keyedBlocks", fn := fun _ => fun
  | [d1, d2, d3] => { results := [.lit (.bool false)], args := [d1, d2, d3] }
  | _ => none }
def KeyedBlocksWrongFalsely : Prop := keyedBlocksRow.holds Tryd.pinned (OpenSpec.ofChange keyedBlocksWrong)

/-- 'dovecotelaw04.KeyedDerives': WHATEVER THE INPUT: true; the input reads as it did. -/
def keyedDerivesSpec : ChangeSpec := { name := "keyedDerives", fn := fun _ => fun
  | [d1, d2, d3] => { results := [.lit (.bool true)], args := [d1, d2, d3] }
  | _ => none }
def keyedDerivesRow : OpenClaim := { program := "ytmaomfebhbpjmaadoor", sum := "40b99a7bba0bcf50451673cbe47dbb6e7b1087b17ed71d35ff1396d7579f5d9f", func := "dovecote/dovecotelaw04.KeyedDerives", spec := "keyedDerives", inPlace := ["internal/abi.NoEscape", "internal/bytealg.MakeNoZero"], named := ["dovecote/hash.ks"], apart := false, laid := [("dovecote/hash.ks", laid_dovecote_hash_ks)] }
def KeyedDerivesSaid : Prop := keyedDerivesRow.holds Tryd.pinned (OpenSpec.ofChange keyedDerivesSpec)

/-- ITS FALSE NEIGHBOUR: 'it returns false'. Refute it at one input. -/
def keyedDerivesWrong : ChangeSpec := { name := "keyedDerives", fn := fun _ => fun
  | [d1, d2, d3] => { results := [.lit (.bool false)], args := [d1, d2, d3] }
  | _ => none }
def KeyedDerivesWrongFalsely : Prop := keyedDerivesRow.holds Tryd.pinned (OpenSpec.ofChange keyedDerivesWrong)

/-- 'dovecotelaw04.KeyedStarts': WHATEVER THE INPUT: true; the input reads as it did. -/
def keyedStartsSpec : ChangeSpec := { name := "keyedStarts", fn := fun _ => fun
  | [d1, d2, d3] => { results := [.lit (.bool true)], args := [d1, d2, d3] }
  | _ => none }
def keyedStartsRow : OpenClaim := { program := "ytmaomfebhbpjmaadoor", sum := "40b99a7bba0bcf50451673cbe47dbb6e7b1087b17ed71d35ff1396d7579f5d9f", func := "dovecote/dovecotelaw04.KeyedStarts", spec := "keyedStarts", inPlace := ["internal/abi.NoEscape", "internal/bytealg.MakeNoZero"], named := ["dovecote/hash.ks"], apart := false, laid := [("dovecote/hash.ks", laid_dovecote_hash_ks)] }
def KeyedStartsSaid : Prop := keyedStartsRow.holds Tryd.pinned (OpenSpec.ofChange keyedStartsSpec)

/-- ITS FALSE NEIGHBOUR: 'it returns false'. Refute it at one input. -/
def keyedStartsWrong : ChangeSpec := { name := "keyedStarts", fn := fun _ => fun
  | [d1, d2, d3] => { results := [.lit (.bool false)], args := [d1, d2, d3] }
  | _ => none }
def KeyedStartsWrongFalsely : Prop := keyedStartsRow.holds Tryd.pinned (OpenSpec.ofChange keyedStartsWrong)

/- THE SECOND FORM. 'bulk': how many values and letters a reading holds, each counted each time it is reached (what is shared counts as often as it is met; a slice's spare places count too). A statement '..UptoSaid' is the law's where the arguments, and the package variables that the reading takes, are together of bulk at most 1048576: NARROWER than '..Said'. Prove '..Said' where nothing that the law and all that it calls make is longer than what came in: it says more and counts as full. Else prove '..UptoSaid'. A law counts once. -/
mutual
def uptoBulk {H : Type} : DataW H → Nat
  | .lit (.string bytes) => bytes.length + 1
  | .lit _ => 1
  | .nil => 1
  | .ptr d => uptoBulk d + 1
  | .slice elems spare => uptoBulkAll elems + uptoBulkAll spare + 1
  | .agg parts => uptoBulkAll parts + 1
  | .iface _ d => uptoBulk d + 1
  | .map entries => uptoBulkEntries entries + 1
  | .held _ => 1
def uptoBulkAll {H : Type} : List (DataW H) → Nat
  | [] => 0
  | d :: r => uptoBulk d + uptoBulkAll r
def uptoBulkEntries {H : Type} : List (Lit × DataW H) → Nat
  | [] => 0
  | x :: r => uptoBulkEntry x + uptoBulkEntries r
def uptoBulkEntry {H : Type} : Lit × DataW H → Nat
  | (.string bytes, d) => bytes.length + uptoBulk d + 1
  | (_, d) => uptoBulk d + 1
 end
def uptoSmall : (H : Type) → List (DataW H) → Bool := fun _ ds => decide (uptoBulkAll ds ≤ 1048576)
def OpenSpec.upto (s : _root_.Go.ChangeSpec) : _root_.Go.OpenSpec := { _root_.Go.OpenSpec.ofChange s with cond := some uptoSmall }

/-- 'dovecotelaw04.KeyedTags', WHERE WHAT IT READS IS OF BULK AT MOST 1048576: true; the input reads as it did. -/
def keyedTagsUptoRow : OpenClaim := { program := "ytmaomfebhbpjmaadoor", sum := "40b99a7bba0bcf50451673cbe47dbb6e7b1087b17ed71d35ff1396d7579f5d9f", func := "dovecote/dovecotelaw04.KeyedTags", spec := "keyedTags", inPlace := ["internal/abi.NoEscape", "internal/bytealg.MakeNoZero"], named := ["dovecote/hash.ks"], apart := false, laid := [("dovecote/hash.ks", laid_dovecote_hash_ks)], narrowed := true }
def KeyedTagsUptoSaid : Prop := keyedTagsUptoRow.holds Tryd.pinned (OpenSpec.upto keyedTagsSpec)

/-- 'dovecotelaw04.KeyedLong', WHERE WHAT IT READS IS OF BULK AT MOST 1048576: true; the input reads as it did. -/
def keyedLongUptoRow : OpenClaim := { program := "ytmaomfebhbpjmaadoor", sum := "40b99a7bba0bcf50451673cbe47dbb6e7b1087b17ed71d35ff1396d7579f5d9f", func := "dovecote/dovecotelaw04.KeyedLong", spec := "keyedLong", inPlace := ["internal/abi.NoEscape", "internal/bytealg.MakeNoZero"], named := ["dovecote/hash.ks"], apart := false, laid := [("dovecote/hash.ks", laid_dovecote_hash_ks)], narrowed := true }
def KeyedLongUptoSaid : Prop := keyedLongUptoRow.holds Tryd.pinned (OpenSpec.upto keyedLongSpec)

/-- 'dovecotelaw04.KeyedCuts', WHERE WHAT IT READS IS OF BULK AT MOST 1048576: true; the input reads as it did. -/
def keyedCutsUptoRow : OpenClaim := { program := "ytmaomfebhbpjmaadoor", sum := "40b99a7bba0bcf50451673cbe47dbb6e7b1087b17ed71d35ff1396d7579f5d9f", func := "dovecote/dovecotelaw04.KeyedCuts", spec := "keyedCuts", inPlace := ["internal/abi.NoEscape", "internal/bytealg.MakeNoZero"], named := ["dovecote/hash.ks"], apart := false, laid := [("dovecote/hash.ks", laid_dovecote_hash_ks)], narrowed := true }
def KeyedCutsUptoSaid : Prop := keyedCutsUptoRow.holds Tryd.pinned (OpenSpec.upto keyedCutsSpec)

/-- 'dovecotelaw04.KeyedSame', WHERE WHAT IT READS IS OF BULK AT MOST 1048576: true; the input reads as it did. -/
def keyedSameUptoRow : OpenClaim := { program := "ytmaomfebhbpjmaadoor", sum := "40b99a7bba0bcf50451673cbe47dbb6e7b1087b17ed71d35ff1396d7579f5d9f", func := "dovecote/dovecotelaw04.KeyedSame", spec := "keyedSame", inPlace := ["internal/abi.NoEscape", "internal/bytealg.MakeNoZero"], named := ["dovecote/hash.ks"], apart := false, laid := [("dovecote/hash.ks", laid_dovecote_hash_ks)], narrowed := true }
def KeyedSameUptoSaid : Prop := keyedSameUptoRow.holds Tryd.pinned (OpenSpec.upto keyedSameSpec)

/-- 'dovecotelaw04.KeyedBlocks', WHERE WHAT IT READS IS OF BULK AT MOST 1048576: true; the input reads as it did. -/
def keyedBlocksUptoRow : OpenClaim := { program := "ytmaomfebhbpjmaadoor", sum := "40b99a7bba0bcf50451673cbe47dbb6e7b1087b17ed71d35ff1396d7579f5d9f", func := "dovecote/dovecotelaw04.KeyedBlocks", spec := "keyedBlocks", inPlace := ["internal/abi.NoEscape", "internal/bytealg.MakeNoZero"], named := ["dovecote/hash.ks"], apart := false, laid := [("dovecote/hash.ks", laid_dovecote_hash_ks)], narrowed := true }
def KeyedBlocksUptoSaid : Prop := keyedBlocksUptoRow.holds Tryd.pinned (OpenSpec.upto keyedBlocksSpec)

/-- 'dovecotelaw04.KeyedDerives', WHERE WHAT IT READS IS OF BULK AT MOST 1048576: true; the input reads as it did. -/
def keyedDerivesUptoRow : OpenClaim := { program := "ytmaomfebhbpjmaadoor", sum := "40b99a7bba0bcf50451673cbe47dbb6e7b1087b17ed71d35ff1396d7579f5d9f", func := "dovecote/dovecotelaw04.KeyedDerives", spec := "keyedDerives", inPlace := ["internal/abi.NoEscape", "internal/bytealg.MakeNoZero"], named := ["dovecote/hash.ks"], apart := false, laid := [("dovecote/hash.ks", laid_dovecote_hash_ks)], narrowed := true }
def KeyedDerivesUptoSaid : Prop := keyedDerivesUptoRow.holds Tryd.pinned (OpenSpec.upto keyedDerivesSpec)

/-- 'dovecotelaw04.KeyedStarts', WHERE WHAT IT READS IS OF BULK AT MOST 1048576: true; the input reads as it did. -/
def keyedStartsUptoRow : OpenClaim := { program := "ytmaomfebhbpjmaadoor", sum := "40b99a7bba0bcf50451673cbe47dbb6e7b1087b17ed71d35ff1396d7579f5d9f", func := "dovecote/dovecotelaw04.KeyedStarts", spec := "keyedStarts", inPlace := ["internal/abi.NoEscape", "internal/bytealg.MakeNoZero"], named := ["dovecote/hash.ks"], apart := false, laid := [("dovecote/hash.ks", laid_dovecote_hash_ks)], narrowed := true }
def KeyedStartsUptoSaid : Prop := keyedStartsUptoRow.holds Tryd.pinned (OpenSpec.upto keyedStartsSpec)

end Rows
end Go.Proofs.YtmaomfebhbpjmaaDoor
