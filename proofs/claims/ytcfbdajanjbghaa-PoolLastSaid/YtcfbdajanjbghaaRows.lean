/-
  No cell of these rows narrows 'for every input' (looked for: loops, veiled, ifaces, maps, wideKeys, modest, calm, conditions, laid).
  DERIVED. THE GIVEN ROWS OF THIS SEAT. 8 by the template 'for every input the law returns true; each argument reads behind the call as it read before'; 0 by the template 'total and deterministic' (their statements: YtcfbdajanjbghaaTotals.lean).
  GIVEN WITH THE SEED: the statements are not yours to turn. If you find one false, say at which input.
  Laid BY PROGRAM, IN A SANDBOX (cutbox-rows.mjs): the forced cells as the released guide's own fill.sh prints them over the translation 8dc7a0e59b99d4e7… (all of the seat's roots in one cut). By AI agents, Wed Nov 11 2026. No macro, syntax, notation, axiom, sorry.
-/
import Derived.Test.YtcfbdajanjbghaaChecked
import GoSem.Claim
import GoSem.ClaimJoined
import GoSem.ClaimMapViews
import Derived.JoinedTies
import Derived.KernelRfl
namespace Go.Proofs.Ytcfbdajanjbghaa
/- THE CELL 'sum', in the pinned program and in every row, IS THE sha256 OF THE DUMP (.gsa) THAT YtcfbdajanjbghaaProg.lean LOADS. Nothing in Lean hashes anything: it is a label: what it is worth is what the hold of that sum in a sandbox is worth. -/
noncomputable def Try.pinned : Pinned := { name := "ytcfbdajanjbghaa", sum := "8dc7a0e59b99d4e7b85ce0fc384ecd022bb9acfbf2124f58932b02a0f6e2b328", checked := Try.checked }
namespace Rows
def none {H : Type} : Left H := { results := [], args := [] }

/-- 'miradorlaw13.PayloadFinds': WHATEVER THE INPUT: true; the input reads as it did. -/
def payloadFindsSpec : ChangeSpec := { name := "payloadFinds", fn := fun _ => fun
  | [d1, d2, d3] => { results := [.lit (.bool true)], args := [d1, d2, d3] }
  | _ => none }
def payloadFindsRow : OpenClaim := { program := "ytcfbdajanjbghaa", sum := "8dc7a0e59b99d4e7b85ce0fc384ecd022bb9acfbf2124f58932b02a0f6e2b328", func := "mirador/miradorlaw13.PayloadFinds", spec := "payloadFinds", plainKeys := false, apart := false }
def PayloadFindsSaid : Prop := payloadFindsRow.holds Try.pinned (OpenSpec.ofChange payloadFindsSpec)

/-- ITS FALSE NEIGHBOUR: 'it returns false'. Refute it at one input. -/
def payloadFindsWrong : ChangeSpec := { name := "payloadFinds", fn := fun _ => fun
  | [d1, d2, d3] => { results := [.lit (.bool false)], args := [d1, d2, d3] }
  | _ => none }
def PayloadFindsWrongFalsely : Prop := payloadFindsRow.holds Try.pinned (OpenSpec.ofChange payloadFindsWrong)

/-- 'miradorlaw13.PayloadCopies': WHATEVER THE INPUT: true; the input reads as it did. -/
def payloadCopiesSpec : ChangeSpec := { name := "payloadCopies", fn := fun _ => fun
  | [d1, d2] => { results := [.lit (.bool true)], args := [d1, d2] }
  | _ => none }
def payloadCopiesRow : OpenClaim := { program := "ytcfbdajanjbghaa", sum := "8dc7a0e59b99d4e7b85ce0fc384ecd022bb9acfbf2124f58932b02a0f6e2b328", func := "mirador/miradorlaw13.PayloadCopies", spec := "payloadCopies", plainKeys := false, apart := false }
def PayloadCopiesSaid : Prop := payloadCopiesRow.holds Try.pinned (OpenSpec.ofChange payloadCopiesSpec)

/-- ITS FALSE NEIGHBOUR: 'it returns false'. Refute it at one input. -/
def payloadCopiesWrong : ChangeSpec := { name := "payloadCopies", fn := fun _ => fun
  | [d1, d2] => { results := [.lit (.bool false)], args := [d1, d2] }
  | _ => none }
def PayloadCopiesWrongFalsely : Prop := payloadCopiesRow.holds Try.pinned (OpenSpec.ofChange payloadCopiesWrong)

/-- 'miradorlaw33.PoolLast': WHATEVER THE INPUT: true; the input reads as it did. -/
def poolLastSpec : ChangeSpec := { name := "poolLast", fn := fun _ => fun
  | [d] => { results := [.lit (.bool true)], args := [d] }
  | _ => none }
def poolLastRow : OpenClaim := { program := "ytcfbdajanjbghaa", sum := "8dc7a0e59b99d4e7b85ce0fc384ecd022bb9acfbf2124f58932b02a0f6e2b328", func := "mirador/miradorlaw33.PoolLast", spec := "poolLast", unfollowed := true, recurses := true, plainKeys := false, apart := false }
def PoolLastSaid : Prop := poolLastRow.holds Try.pinned (OpenSpec.ofChange poolLastSpec)

/-- ITS FALSE NEIGHBOUR: 'it returns false'. Refute it at one input. -/
def poolLastWrong : ChangeSpec := { name := "poolLast", fn := fun _ => fun
  | [d] => { results := [.lit (.bool false)], args := [d] }
  | _ => none }
def PoolLastWrongFalsely : Prop := poolLastRow.holds Try.pinned (OpenSpec.ofChange poolLastWrong)

/-- 'miradorlaw33.PoolDoes': WHATEVER THE INPUT: true; the input reads as it did. -/
def poolDoesSpec : ChangeSpec := { name := "poolDoes", fn := fun _ => fun
  | [d] => { results := [.lit (.bool true)], args := [d] }
  | _ => none }
def poolDoesRow : OpenClaim := { program := "ytcfbdajanjbghaa", sum := "8dc7a0e59b99d4e7b85ce0fc384ecd022bb9acfbf2124f58932b02a0f6e2b328", func := "mirador/miradorlaw33.PoolDoes", spec := "poolDoes", unfollowed := true, recurses := true, plainKeys := false, apart := false }
def PoolDoesSaid : Prop := poolDoesRow.holds Try.pinned (OpenSpec.ofChange poolDoesSpec)

/-- ITS FALSE NEIGHBOUR: 'it returns false'. Refute it at one input. -/
def poolDoesWrong : ChangeSpec := { name := "poolDoes", fn := fun _ => fun
  | [d] => { results := [.lit (.bool false)], args := [d] }
  | _ => none }
def PoolDoesWrongFalsely : Prop := poolDoesRow.holds Try.pinned (OpenSpec.ofChange poolDoesWrong)

/-- 'miradorlaw33.PoolNil': WHATEVER THE INPUT: true; the input reads as it did. -/
def poolNilSpec : ChangeSpec := { name := "poolNil", fn := fun _ => fun
  | [d1, d2] => { results := [.lit (.bool true)], args := [d1, d2] }
  | _ => none }
def poolNilRow : OpenClaim := { program := "ytcfbdajanjbghaa", sum := "8dc7a0e59b99d4e7b85ce0fc384ecd022bb9acfbf2124f58932b02a0f6e2b328", func := "mirador/miradorlaw33.PoolNil", spec := "poolNil", unfollowed := true, recurses := true, plainKeys := false, apart := false }
def PoolNilSaid : Prop := poolNilRow.holds Try.pinned (OpenSpec.ofChange poolNilSpec)

/-- ITS FALSE NEIGHBOUR: 'it returns false'. Refute it at one input. -/
def poolNilWrong : ChangeSpec := { name := "poolNil", fn := fun _ => fun
  | [d1, d2] => { results := [.lit (.bool false)], args := [d1, d2] }
  | _ => none }
def PoolNilWrongFalsely : Prop := poolNilRow.holds Try.pinned (OpenSpec.ofChange poolNilWrong)

/-- 'miradorlaw27.SeenDoes': WHATEVER THE INPUT: true; the input reads as it did. -/
def seenDoesSpec : ChangeSpec := { name := "seenDoes", fn := fun _ => fun
  | [d] => { results := [.lit (.bool true)], args := [d] }
  | _ => none }
def seenDoesRow : OpenClaim := { program := "ytcfbdajanjbghaa", sum := "8dc7a0e59b99d4e7b85ce0fc384ecd022bb9acfbf2124f58932b02a0f6e2b328", func := "mirador/miradorlaw27.SeenDoes", spec := "seenDoes", unfollowed := true, recurses := true, plainKeys := false, apart := false }
def SeenDoesSaid : Prop := seenDoesRow.holds Try.pinned (OpenSpec.ofChange seenDoesSpec)

/-- ITS FALSE NEIGHBOUR: 'it returns false'. Refute it at one input. -/
def seenDoesWrong : ChangeSpec := { name := "seenDoes", fn := fun _ => fun
  | [d] => { results := [.lit (.bool false)], args := [d] }
  | _ => none }
def SeenDoesWrongFalsely : Prop := seenDoesRow.holds Try.pinned (OpenSpec.ofChange seenDoesWrong)

/-- 'miradorlaw27.SeenNil': WHATEVER THE INPUT: true; the input reads as it did. -/
def seenNilSpec : ChangeSpec := { name := "seenNil", fn := fun _ => fun
  | [d1, d2] => { results := [.lit (.bool true)], args := [d1, d2] }
  | _ => none }
def seenNilRow : OpenClaim := { program := "ytcfbdajanjbghaa", sum := "8dc7a0e59b99d4e7b85ce0fc384ecd022bb9acfbf2124f58932b02a0f6e2b328", func := "mirador/miradorlaw27.SeenNil", spec := "seenNil", unfollowed := true, recurses := true, plainKeys := false, apart := false }
def SeenNilSaid : Prop := seenNilRow.holds Try.pinned (OpenSpec.ofChange seenNilSpec)

/-- ITS FALSE NEIGHBOUR: 'it returns false'. Refute it at one input. -/
def seenNilWrong : ChangeSpec := { name := "seenNil", fn := fun _ => fun
  | [d1, d2] => { results := [.lit (.bool false)], args := [d1, d2] }
  | _ => none }
def SeenNilWrongFalsely : Prop := seenNilRow.holds Try.pinned (OpenSpec.ofChange seenNilWrong)

/-- 'miradorlaw27.SeenChain': WHATEVER THE INPUT: true; the input reads as it did. -/
def seenChainSpec : ChangeSpec := { name := "seenChain", fn := fun _ => fun
  | [d1, d2, d3] => { results := [.lit (.bool true)], args := [d1, d2, d3] }
  | _ => none }
def seenChainRow : OpenClaim := { program := "ytcfbdajanjbghaa", sum := "8dc7a0e59b99d4e7b85ce0fc384ecd022bb9acfbf2124f58932b02a0f6e2b328", func := "mirador/miradorlaw27.SeenChain", spec := "seenChain", unfollowed := true, recurses := true, plainKeys := false, apart := false }
def SeenChainSaid : Prop := seenChainRow.holds Try.pinned (OpenSpec.ofChange seenChainSpec)

/-- ITS FALSE NEIGHBOUR: 'it returns false'. Refute it at one input. -/
def seenChainWrong : ChangeSpec := { name := "seenChain", fn := fun _ => fun
  | [d1, d2, d3] => { results := [.lit (.bool false)], args := [d1, d2, d3] }
  | _ => none }
def SeenChainWrongFalsely : Prop := seenChainRow.holds Try.pinned (OpenSpec.ofChange seenChainWrong)

/- THE SECOND FORM. 'bulk': how many values and letters a reading holds, each counted each time it is reached (what is shared counts as often as it is met; a slice's spare places count too). A statement '..UptoSaid' is the law's where the arguments, and the package variables that the reading takes, are together of bulk at most 1048576: NARROWER than '..Said'. Prove '..Said' where nothing that the law and all that it calls make is longer than what came in: it says more and counts as full. Else prove '..UptoSaid'. A law counts once. -/
mutual
def uptoBulk {H : Type} : DataW H → Nat
  | .lit (.string bytes) => bytes.length + 1
  | .lit _ => 1
  | .nil => 1
  | .ptr d => uptoBulk d + 1
  | .slice elems spare => uptoBulkAll elems + uptoBulkAll spare + 1
  | .agg parts => uptoBulkAll parts + 1
  | .iface _ d => uptoBulk d + 1
  | .map entries => uptoBulkEntries entries + 1
  | .held _ => 1
def uptoBulkAll {H : Type} : List (DataW H) → Nat
  | [] => 0
  | d :: r => uptoBulk d + uptoBulkAll r
def uptoBulkEntries {H : Type} : List (Lit × DataW H) → Nat
  | [] => 0
  | x :: r => uptoBulkEntry x + uptoBulkEntries r
def uptoBulkEntry {H : Type} : Lit × DataW H → Nat
  | (.string bytes, d) => bytes.length + uptoBulk d + 1
  | (_, d) => uptoBulk d + 1
 end
def uptoSmall : (H : Type) → List (DataW H) → Bool := fun _ ds => decide (uptoBulkAll ds ≤ 1048576)
def OpenSpec.upto (s : _root_.Go.ChangeSpec) : _root_.Go.OpenSpec := { _root_.Go.OpenSpec.ofChange s with cond := some uptoSmall }

/-- 'miradorlaw13.PayloadFinds', WHERE WHAT IT READS IS OF BULK AT MOST 1048576: true; the input reads as it did. -/
def payloadFindsUptoRow : OpenClaim := { program := "ytcfbdajanjbghaa", sum := "8dc7a0e59b99d4e7b85ce0fc384ecd022bb9acfbf2124f58932b02a0f6e2b328", func := "mirador/miradorlaw13.PayloadFinds", spec := "payloadFinds", plainKeys := false, apart := false, narrowed := true }
def PayloadFindsUptoSaid : Prop := payloadFindsUptoRow.holds Try.pinned (OpenSpec.upto payloadFindsSpec)

/-- 'miradorlaw13.PayloadCopies', WHERE WHAT IT READS IS OF BULK AT MOST 1048576: true; the input reads as it did. -/
def payloadCopiesUptoRow : OpenClaim := { program := "ytcfbdajanjbghaa", sum := "8dc7a0e59b99d4e7b85ce0fc384ecd022bb9acfbf2124f58932b02a0f6e2b328", func := "mirador/miradorlaw13.PayloadCopies", spec := "payloadCopies", plainKeys := false, apart := false, narrowed := true }
def PayloadCopiesUptoSaid : Prop := payloadCopiesUptoRow.holds Try.pinned (OpenSpec.upto payloadCopiesSpec)

/-- 'miradorlaw33.PoolLast', WHERE WHAT IT READS IS OF BULK AT MOST 1048576: true; the input reads as it did. -/
def poolLastUptoRow : OpenClaim := { program := "ytcfbdajanjbghaa", sum := "8dc7a0e59b99d4e7b85ce0fc384ecd022bb9acfbf2124f58932b02a0f6e2b328", func := "mirador/miradorlaw33.PoolLast", spec := "poolLast", unfollowed := true, recurses := true, plainKeys := false, apart := false, narrowed := true }
def PoolLastUptoSaid : Prop := poolLastUptoRow.holds Try.pinned (OpenSpec.upto poolLastSpec)

/-- 'miradorlaw33.PoolDoes', WHERE WHAT IT READS IS OF BULK AT MOST 1048576: true; the input reads as it did. -/
def poolDoesUptoRow : OpenClaim := { program := "ytcfbdajanjbghaa", sum := "8dc7a0e59b99d4e7b85ce0fc384ecd022bb9acfbf2124f58932b02a0f6e2b328", func := "mirador/miradorlaw33.PoolDoes", spec := "poolDoes", unfollowed := true, recurses := true, plainKeys := false, apart := false, narrowed := true }
def PoolDoesUptoSaid : Prop := poolDoesUptoRow.holds Try.pinned (OpenSpec.upto poolDoesSpec)

/-- 'miradorlaw33.PoolNil', WHERE WHAT IT READS IS OF BULK AT MOST 1048576: true; the input reads as it did. -/
def poolNilUptoRow : OpenClaim := { program := "ytcfbdajanjbghaa", sum := "8dc7a0e59b99d4e7b85ce0fc384ecd022bb9acfbf2124f58932b02a0f6e2b328", func := "mirador/miradorlaw33.PoolNil", spec := "poolNil", unfollowed := true, recurses := true, plainKeys := false, apart := false, narrowed := true }
def PoolNilUptoSaid : Prop := poolNilUptoRow.holds Try.pinned (OpenSpec.upto poolNilSpec)

/-- 'miradorlaw27.SeenDoes', WHERE WHAT IT READS IS OF BULK AT MOST 1048576: true; the input reads as it did. -/
def seenDoesUptoRow : OpenClaim := { program := "ytcfbdajanjbghaa", sum := "8dc7a0e59b99d4e7b85ce0fc384ecd022bb9acfbf2124f58932b02a0f6e2b328", func := "mirador/miradorlaw27.SeenDoes", spec := "seenDoes", unfollowed := true, recurses := true, plainKeys := false, apart := false, narrowed := true }
def SeenDoesUptoSaid : Prop := seenDoesUptoRow.holds Try.pinned (OpenSpec.upto seenDoesSpec)

/-- 'miradorlaw27.SeenNil', WHERE WHAT IT READS IS OF BULK AT MOST 1048576: true; the input reads as it did. -/
def seenNilUptoRow : OpenClaim := { program := "ytcfbdajanjbghaa", sum := "8dc7a0e59b99d4e7b85ce0fc384ecd022bb9acfbf2124f58932b02a0f6e2b328", func := "mirador/miradorlaw27.SeenNil", spec := "seenNil", unfollowed := true, recurses := true, plainKeys := false, apart := false, narrowed := true }
def SeenNilUptoSaid : Prop := seenNilUptoRow.holds Try.pinned (OpenSpec.upto seenNilSpec)

/-- 'miradorlaw27.SeenChain', WHERE WHAT IT READS IS OF BULK AT MOST 1048576: true; the input reads as it did. -/
def seenChainUptoRow : OpenClaim := { program := "ytcfbdajanjbghaa", sum := "8dc7a0e59b99d4e7b85ce0fc384ecd022bb9acfbf2124f58932b02a0f6e2b328", func := "mirador/miradorlaw27.SeenChain", spec := "seenChain", unfollowed := true, recurses := true, plainKeys := false, apart := false, narrowed := true }
def SeenChainUptoSaid : Prop := seenChainUptoRow.holds Try.pinned (OpenSpec.upto seenChainSpec)

end Rows
end Go.Proofs.Ytcfbdajanjbghaa
