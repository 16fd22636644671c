/-
  No cell of these rows narrows 'for every input' (looked for: loops, veiled, ifaces, maps, wideKeys, modest, calm, conditions, laid).
  DERIVED. THE GIVEN ROWS OF THIS SEAT. 3 by the template 'for every input the law returns true; each argument reads behind the call as it read before'; 0 by the template 'total and deterministic' (their statements: YtdncnepedkkamaaTotals.lean).
  GIVEN WITH THE SEED: the statements are not yours to turn. If you find one false, say at which input.
  Laid BY PROGRAM, IN A SANDBOX (cutbox-rows.mjs): the forced cells as the released guide's own fill.sh prints them over the translation 59370fe2bebcb614… (all of the seat's roots in one cut). By AI agents, Wed Nov 11 2026. No macro, syntax, notation, axiom, sorry.
-/
import Derived.Test.YtdncnepedkkamaaChecked
import GoSem.Claim
import GoSem.ClaimJoined
import GoSem.ClaimMapViews
import Derived.JoinedTies
import Derived.KernelRfl
namespace Go.Proofs.Ytdncnepedkkamaa
/- THE CELL 'sum', in the pinned program and in every row, IS THE sha256 OF THE DUMP (.gsa) THAT YtdncnepedkkamaaProg.lean LOADS. Nothing in Lean hashes anything: it is a label: what it is worth is what the hold of that sum in a sandbox is worth. -/
noncomputable def Try.pinned : Pinned := { name := "ytdncnepedkkamaa", sum := "59370fe2bebcb614730f6e23f3372bbe84cd623e59567f0022a30d28c6441a57", checked := Try.checked }
namespace Rows
def none {H : Type} : Left H := { results := [], args := [] }

/-- 'miradorlaw23.SessionDoes': WHATEVER THE INPUT: true; the input reads as it did. -/
def sessionDoesSpec : ChangeSpec := { name := "sessionDoes", fn := fun _ => fun
  | [d1, d2] => { results := [.lit (.bool true)], args := [d1, d2] }
  | _ => none }
def sessionDoesRow : OpenClaim := { program := "ytdncnepedkkamaa", sum := "59370fe2bebcb614730f6e23f3372bbe84cd623e59567f0022a30d28c6441a57", func := "mirador/miradorlaw23.SessionDoes", spec := "sessionDoes", unfollowed := true, recurses := true, plainKeys := false, apart := false }
def SessionDoesSaid : Prop := sessionDoesRow.holds Try.pinned (OpenSpec.ofChange sessionDoesSpec)

/-- ITS FALSE NEIGHBOUR: 'it returns false'. Refute it at one input. -/
def sessionDoesWrong : ChangeSpec := { name := "sessionDoes", fn := fun _ => fun
  | [d1, d2] => { results := [.lit (.bool false)], args := [d1, d2] }
  | _ => none }
def SessionDoesWrongFalsely : Prop := sessionDoesRow.holds Try.pinned (OpenSpec.ofChange sessionDoesWrong)

/-- 'miradorlaw27.SeenDoes': WHATEVER THE INPUT: true; the input reads as it did. -/
def seenDoesSpec : ChangeSpec := { name := "seenDoes", fn := fun _ => fun
  | [d] => { results := [.lit (.bool true)], args := [d] }
  | _ => none }
def seenDoesRow : OpenClaim := { program := "ytdncnepedkkamaa", sum := "59370fe2bebcb614730f6e23f3372bbe84cd623e59567f0022a30d28c6441a57", func := "mirador/miradorlaw27.SeenDoes", spec := "seenDoes", unfollowed := true, recurses := true, plainKeys := false, apart := false }
def SeenDoesSaid : Prop := seenDoesRow.holds Try.pinned (OpenSpec.ofChange seenDoesSpec)

/-- ITS FALSE NEIGHBOUR: 'it returns false'. Refute it at one input. -/
def seenDoesWrong : ChangeSpec := { name := "seenDoes", fn := fun _ => fun
  | [d] => { results := [.lit (.bool false)], args := [d] }
  | _ => none }
def SeenDoesWrongFalsely : Prop := seenDoesRow.holds Try.pinned (OpenSpec.ofChange seenDoesWrong)

/-- 'miradorlaw27.SeenChain': WHATEVER THE INPUT: true; the input reads as it did. -/
def seenChainSpec : ChangeSpec := { name := "seenChain", fn := fun _ => fun
  | [d1, d2, d3] => { results := [.lit (.bool true)], args := [d1, d2, d3] }
  | _ => none }
def seenChainRow : OpenClaim := { program := "ytdncnepedkkamaa", sum := "59370fe2bebcb614730f6e23f3372bbe84cd623e59567f0022a30d28c6441a57", func := "mirador/miradorlaw27.SeenChain", spec := "seenChain", unfollowed := true, recurses := true, plainKeys := false, apart := false }
def SeenChainSaid : Prop := seenChainRow.holds Try.pinned (OpenSpec.ofChange seenChainSpec)

/-- ITS FALSE NEIGHBOUR: 'it returns false'. Refute it at one input. -/
def seenChainWrong : ChangeSpec := { name := "seenChain", fn := fun _ => fun
  | [d1, d2, d3] => { results := [.lit (.bool false)], args := [d1, d2, d3] }
  | _ => none }
def SeenChainWrongFalsely : Prop := seenChainRow.holds Try.pinned (OpenSpec.ofChange seenChainWrong)

/- THE SECOND FORM. 'bulk': how many values and letters a reading holds, each counted each time it is reached (what is shared counts as often as it is met; a slice's spare places count too). A statement '..UptoSaid' is the law's where the arguments, and the package variables that the reading takes, are together of bulk at most 1048576: NARROWER than '..Said'. Prove '..Said' where nothing that the law and all that it calls make is longer than what came in: it says more and counts as full. Else prove '..UptoSaid'. A law counts once. -/
mutual
def uptoBulk {H : Type} : DataW H → Nat
  | .lit (.string bytes) => bytes.length + 1
  | .lit _ => 1
  | .nil => 1
  | .ptr d => uptoBulk d + 1
  | .slice elems spare => uptoBulkAll elems + uptoBulkAll spare + 1
  | .agg parts => uptoBulkAll parts + 1
  | .iface _ d => uptoBulk d + 1
  | .map entries => uptoBulkEntries entries + 1
  | .held _ => 1
def uptoBulkAll {H : Type} : List (DataW H) → Nat
  | [] => 0
  | d :: r => uptoBulk d + uptoBulkAll r
def uptoBulkEntries {H : Type} : List (Lit × DataW H) → Nat
  | [] => 0
  | x :: r => uptoBulkEntry x + uptoBulkEntries r
def uptoBulkEntry {H : Type} : Lit × DataW H → Nat
  | (.string bytes, d) => bytes.length + uptoBulk d + 1
  | (_, d) => uptoBulk d + 1
 end
def uptoSmall : (H : Type) → List (DataW H) → Bool := fun _ ds => decide (uptoBulkAll ds ≤ 1048576)
def OpenSpec.upto (s : _root_.Go.ChangeSpec) : _root_.Go.OpenSpec := { _root_.Go.OpenSpec.ofChange s with cond := some uptoSmall }

/-- 'miradorlaw23.SessionDoes', WHERE WHAT IT READS IS OF BULK AT MOST 1048576: true; the input reads as it did. -/
def sessionDoesUptoRow : OpenClaim := { program := "ytdncnepedkkamaa", sum := "59370fe2bebcb614730f6e23f3372bbe84cd623e59567f0022a30d28c6441a57", func := "mirador/miradorlaw23.SessionDoes", spec := "sessionDoes", unfollowed := true, recurses := true, plainKeys := false, apart := false, narrowed := true }
def SessionDoesUptoSaid : Prop := sessionDoesUptoRow.holds Try.pinned (OpenSpec.upto sessionDoesSpec)

/-- 'miradorlaw27.SeenDoes', WHERE WHAT IT READS IS OF BULK AT MOST 1048576: true; the input reads as it did. -/
def seenDoesUptoRow : OpenClaim := { program := "ytdncnepedkkamaa", sum := "59370fe2bebcb614730f6e23f3372bbe84cd623e59567f0022a30d28c6441a57", func := "mirador/miradorlaw27.SeenDoes", spec := "seenDoes", unfollowed := true, recurses := true, plainKeys := false, apart := false, narrowed := true }
def SeenDoesUptoSaid : Prop := seenDoesUptoRow.holds Try.pinned (OpenSpec.upto seenDoesSpec)

/-- 'miradorlaw27.SeenChain', WHERE WHAT IT READS IS OF BULK AT MOST 1048576: true; the input reads as it did. -/
def seenChainUptoRow : OpenClaim := { program := "ytdncnepedkkamaa", sum := "59370fe2bebcb614730f6e23f3372bbe84cd623e59567f0022a30d28c6441a57", func := "mirador/miradorlaw27.SeenChain", spec := "seenChain", unfollowed := true, recurses := true, plainKeys := false, apart := false, narrowed := true }
def SeenChainUptoSaid : Prop := seenChainUptoRow.holds Try.pinned (OpenSpec.upto seenChainSpec)

end Rows
end Go.Proofs.Ytdncnepedkkamaa
