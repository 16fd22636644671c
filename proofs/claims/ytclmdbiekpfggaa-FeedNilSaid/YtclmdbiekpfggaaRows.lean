/-
  No cell of these rows narrows 'for every input' (looked for: loops, veiled, ifaces, maps, wideKeys, modest, calm, conditions, laid).
  DERIVED. THE GIVEN ROWS OF THIS SEAT. 11 by the template 'for every input the law returns true; each argument reads behind the call as it read before'; 0 by the template 'total and deterministic' (their statements: YtclmdbiekpfggaaTotals.lean).
  GIVEN WITH THE SEED: the statements are not yours to turn. If you find one false, say at which input.
  Laid BY PROGRAM, IN A SANDBOX (cutbox-rows.mjs): the forced cells as the released guide's own fill.sh prints them over the translation a9ab53c06df76389… (all of the seat's roots in one cut). By AI agents, Wed Nov 11 2026. No macro, syntax, notation, axiom, sorry.
-/
import Derived.Test.YtclmdbiekpfggaaChecked
import GoSem.Claim
import GoSem.ClaimJoined
import GoSem.ClaimMapViews
import Derived.JoinedTies
import Derived.KernelRfl
namespace Go.Proofs.Ytclmdbiekpfggaa
/- THE CELL 'sum', in the pinned program and in every row, IS THE sha256 OF THE DUMP (.gsa) THAT YtclmdbiekpfggaaProg.lean LOADS. Nothing in Lean hashes anything: it is a label: what it is worth is what the hold of that sum in a sandbox is worth. -/
noncomputable def Try.pinned : Pinned := { name := "ytclmdbiekpfggaa", sum := "a9ab53c06df76389d7ee1663813b606583d8fd6aa0247beaefedc9357f111722", checked := Try.checked }
namespace Rows
def none {H : Type} : Left H := { results := [], args := [] }

/-- 'miradorlaw34.RespondDue': WHATEVER THE INPUT: true; the input reads as it did. -/
def respondDueSpec : ChangeSpec := { name := "respondDue", fn := fun _ => fun
  | [d1, d2, d3] => { results := [.lit (.bool true)], args := [d1, d2, d3] }
  | _ => none }
def respondDueRow : OpenClaim := { program := "ytclmdbiekpfggaa", sum := "a9ab53c06df76389d7ee1663813b606583d8fd6aa0247beaefedc9357f111722", func := "mirador/miradorlaw34.RespondDue", spec := "respondDue", plainKeys := false, apart := false }
def RespondDueSaid : Prop := respondDueRow.holds Try.pinned (OpenSpec.ofChange respondDueSpec)

/-- ITS FALSE NEIGHBOUR: 'it returns false'. Refute it at one input. -/
def respondDueWrong : ChangeSpec := { name := "respondDue", fn := fun _ => fun
  | [d1, d2, d3] => { results := [.lit (.bool false)], args := [d1, d2, d3] }
  | _ => none }
def RespondDueWrongFalsely : Prop := respondDueRow.holds Try.pinned (OpenSpec.ofChange respondDueWrong)

/-- 'miradorlaw23.SessionQuota': WHATEVER THE INPUT: true; the input reads as it did. -/
def sessionQuotaSpec : ChangeSpec := { name := "sessionQuota", fn := fun _ => fun
  | [d1, d2, d3, d4] => { results := [.lit (.bool true)], args := [d1, d2, d3, d4] }
  | _ => none }
def sessionQuotaRow : OpenClaim := { program := "ytclmdbiekpfggaa", sum := "a9ab53c06df76389d7ee1663813b606583d8fd6aa0247beaefedc9357f111722", func := "mirador/miradorlaw23.SessionQuota", spec := "sessionQuota", plainKeys := false, apart := false }
def SessionQuotaSaid : Prop := sessionQuotaRow.holds Try.pinned (OpenSpec.ofChange sessionQuotaSpec)

/-- ITS FALSE NEIGHBOUR: 'it returns false'. Refute it at one input. -/
def sessionQuotaWrong : ChangeSpec := { name := "sessionQuota", fn := fun _ => fun
  | [d1, d2, d3, d4] => { results := [.lit (.bool false)], args := [d1, d2, d3, d4] }
  | _ => none }
def SessionQuotaWrongFalsely : Prop := sessionQuotaRow.holds Try.pinned (OpenSpec.ofChange sessionQuotaWrong)

/-- 'miradorlaw23.SessionDoes': WHATEVER THE INPUT: true; the input reads as it did. -/
def sessionDoesSpec : ChangeSpec := { name := "sessionDoes", fn := fun _ => fun
  | [d1, d2] => { results := [.lit (.bool true)], args := [d1, d2] }
  | _ => none }
def sessionDoesRow : OpenClaim := { program := "ytclmdbiekpfggaa", sum := "a9ab53c06df76389d7ee1663813b606583d8fd6aa0247beaefedc9357f111722", func := "mirador/miradorlaw23.SessionDoes", spec := "sessionDoes", unfollowed := true, recurses := true, plainKeys := false, apart := false }
def SessionDoesSaid : Prop := sessionDoesRow.holds Try.pinned (OpenSpec.ofChange sessionDoesSpec)

/-- ITS FALSE NEIGHBOUR: 'it returns false'. Refute it at one input. -/
def sessionDoesWrong : ChangeSpec := { name := "sessionDoes", fn := fun _ => fun
  | [d1, d2] => { results := [.lit (.bool false)], args := [d1, d2] }
  | _ => none }
def SessionDoesWrongFalsely : Prop := sessionDoesRow.holds Try.pinned (OpenSpec.ofChange sessionDoesWrong)

/-- 'miradorlaw23.SessionNil': WHATEVER THE INPUT: true; the input reads as it did. -/
def sessionNilSpec : ChangeSpec := { name := "sessionNil", fn := fun _ => fun
  | [d] => { results := [.lit (.bool true)], args := [d] }
  | _ => none }
def sessionNilRow : OpenClaim := { program := "ytclmdbiekpfggaa", sum := "a9ab53c06df76389d7ee1663813b606583d8fd6aa0247beaefedc9357f111722", func := "mirador/miradorlaw23.SessionNil", spec := "sessionNil", unfollowed := true, recurses := true, plainKeys := false, apart := false }
def SessionNilSaid : Prop := sessionNilRow.holds Try.pinned (OpenSpec.ofChange sessionNilSpec)

/-- ITS FALSE NEIGHBOUR: 'it returns false'. Refute it at one input. -/
def sessionNilWrong : ChangeSpec := { name := "sessionNil", fn := fun _ => fun
  | [d] => { results := [.lit (.bool false)], args := [d] }
  | _ => none }
def SessionNilWrongFalsely : Prop := sessionNilRow.holds Try.pinned (OpenSpec.ofChange sessionNilWrong)

/-- 'miradorlaw38.FeedWays': WHATEVER THE INPUT: true; the input reads as it did. -/
def feedWaysSpec : ChangeSpec := { name := "feedWays", fn := fun _ => fun
  | [d1, d2, d3] => { results := [.lit (.bool true)], args := [d1, d2, d3] }
  | _ => none }
def feedWaysRow : OpenClaim := { program := "ytclmdbiekpfggaa", sum := "a9ab53c06df76389d7ee1663813b606583d8fd6aa0247beaefedc9357f111722", func := "mirador/miradorlaw38.FeedWays", spec := "feedWays", plainKeys := false, apart := false }
def FeedWaysSaid : Prop := feedWaysRow.holds Try.pinned (OpenSpec.ofChange feedWaysSpec)

/-- ITS FALSE NEIGHBOUR: 'it returns false'. Refute it at one input. -/
def feedWaysWrong : ChangeSpec := { name := "feedWays", fn := fun _ => fun
  | [d1, d2, d3] => { results := [.lit (.bool false)], args := [d1, d2, d3] }
  | _ => none }
def FeedWaysWrongFalsely : Prop := feedWaysRow.holds Try.pinned (OpenSpec.ofChange feedWaysWrong)

/-- 'miradorlaw38.FeedTells': WHATEVER THE INPUT: true; the input reads as it did. -/
def feedTellsSpec : ChangeSpec := { name := "feedTells", fn := fun _ => fun
  | [d1, d2] => { results := [.lit (.bool true)], args := [d1, d2] }
  | _ => none }
def feedTellsRow : OpenClaim := { program := "ytclmdbiekpfggaa", sum := "a9ab53c06df76389d7ee1663813b606583d8fd6aa0247beaefedc9357f111722", func := "mirador/miradorlaw38.FeedTells", spec := "feedTells", inPlace := ["internal/bytealg.abigen_runtime_cmpstring"], unfollowed := true, recurses := true, plainKeys := false, apart := false }
def FeedTellsSaid : Prop := feedTellsRow.holds Try.pinned (OpenSpec.ofChange feedTellsSpec)

/-- ITS FALSE NEIGHBOUR: 'it returns false'. Refute it at one input. -/
def feedTellsWrong : ChangeSpec := { name := "feedTells", fn := fun _ => fun
  | [d1, d2] => { results := [.lit (.bool false)], args := [d1, d2] }
  | _ => none }
def FeedTellsWrongFalsely : Prop := feedTellsRow.holds Try.pinned (OpenSpec.ofChange feedTellsWrong)

/-- 'miradorlaw38.FeedNil': WHATEVER THE INPUT: true; the input reads as it did. -/
def feedNilSpec : ChangeSpec := { name := "feedNil", fn := fun _ => fun
  | [d] => { results := [.lit (.bool true)], args := [d] }
  | _ => none }
def feedNilRow : OpenClaim := { program := "ytclmdbiekpfggaa", sum := "a9ab53c06df76389d7ee1663813b606583d8fd6aa0247beaefedc9357f111722", func := "mirador/miradorlaw38.FeedNil", spec := "feedNil", inPlace := ["internal/bytealg.abigen_runtime_cmpstring"], unfollowed := true, recurses := true, plainKeys := false, apart := false }
def FeedNilSaid : Prop := feedNilRow.holds Try.pinned (OpenSpec.ofChange feedNilSpec)

/-- ITS FALSE NEIGHBOUR: 'it returns false'. Refute it at one input. -/
def feedNilWrong : ChangeSpec := { name := "feedNil", fn := fun _ => fun
  | [d] => { results := [.lit (.bool false)], args := [d] }
  | _ => none }
def FeedNilWrongFalsely : Prop := feedNilRow.holds Try.pinned (OpenSpec.ofChange feedNilWrong)

/-- 'miradorlaw25.ShelfFound': WHATEVER THE INPUT: true; the input reads as it did. -/
def shelfFoundSpec : ChangeSpec := { name := "shelfFound", fn := fun _ => fun
  | [d1, d2] => { results := [.lit (.bool true)], args := [d1, d2] }
  | _ => none }
def shelfFoundRow : OpenClaim := { program := "ytclmdbiekpfggaa", sum := "a9ab53c06df76389d7ee1663813b606583d8fd6aa0247beaefedc9357f111722", func := "mirador/miradorlaw25.ShelfFound", spec := "shelfFound", unfollowed := true, recurses := true, plainKeys := false, apart := false }
def ShelfFoundSaid : Prop := shelfFoundRow.holds Try.pinned (OpenSpec.ofChange shelfFoundSpec)

/-- ITS FALSE NEIGHBOUR: 'it returns false'. Refute it at one input. -/
def shelfFoundWrong : ChangeSpec := { name := "shelfFound", fn := fun _ => fun
  | [d1, d2] => { results := [.lit (.bool false)], args := [d1, d2] }
  | _ => none }
def ShelfFoundWrongFalsely : Prop := shelfFoundRow.holds Try.pinned (OpenSpec.ofChange shelfFoundWrong)

/-- 'miradorlaw25.ShelfApart': WHATEVER THE INPUT: true; the input reads as it did. -/
def shelfApartSpec : ChangeSpec := { name := "shelfApart", fn := fun _ => fun
  | [d] => { results := [.lit (.bool true)], args := [d] }
  | _ => none }
def shelfApartRow : OpenClaim := { program := "ytclmdbiekpfggaa", sum := "a9ab53c06df76389d7ee1663813b606583d8fd6aa0247beaefedc9357f111722", func := "mirador/miradorlaw25.ShelfApart", spec := "shelfApart", unfollowed := true, recurses := true, plainKeys := false, apart := false }
def ShelfApartSaid : Prop := shelfApartRow.holds Try.pinned (OpenSpec.ofChange shelfApartSpec)

/-- ITS FALSE NEIGHBOUR: 'it returns false'. Refute it at one input. -/
def shelfApartWrong : ChangeSpec := { name := "shelfApart", fn := fun _ => fun
  | [d] => { results := [.lit (.bool false)], args := [d] }
  | _ => none }
def ShelfApartWrongFalsely : Prop := shelfApartRow.holds Try.pinned (OpenSpec.ofChange shelfApartWrong)

/-- 'miradorlaw25.ShelfDoes': WHATEVER THE INPUT: true; the input reads as it did. -/
def shelfDoesSpec : ChangeSpec := { name := "shelfDoes", fn := fun _ => fun
  | [d] => { results := [.lit (.bool true)], args := [d] }
  | _ => none }
def shelfDoesRow : OpenClaim := { program := "ytclmdbiekpfggaa", sum := "a9ab53c06df76389d7ee1663813b606583d8fd6aa0247beaefedc9357f111722", func := "mirador/miradorlaw25.ShelfDoes", spec := "shelfDoes", unfollowed := true, recurses := true, plainKeys := false, apart := false }
def ShelfDoesSaid : Prop := shelfDoesRow.holds Try.pinned (OpenSpec.ofChange shelfDoesSpec)

/-- ITS FALSE NEIGHBOUR: 'it returns false'. Refute it at one input. -/
def shelfDoesWrong : ChangeSpec := { name := "shelfDoes", fn := fun _ => fun
  | [d] => { results := [.lit (.bool false)], args := [d] }
  | _ => none }
def ShelfDoesWrongFalsely : Prop := shelfDoesRow.holds Try.pinned (OpenSpec.ofChange shelfDoesWrong)

/-- 'miradorlaw25.ShelfNil': WHATEVER THE INPUT: true; the input reads as it did. -/
def shelfNilSpec : ChangeSpec := { name := "shelfNil", fn := fun _ => fun
  | [d] => { results := [.lit (.bool true)], args := [d] }
  | _ => none }
def shelfNilRow : OpenClaim := { program := "ytclmdbiekpfggaa", sum := "a9ab53c06df76389d7ee1663813b606583d8fd6aa0247beaefedc9357f111722", func := "mirador/miradorlaw25.ShelfNil", spec := "shelfNil", unfollowed := true, recurses := true, plainKeys := false, apart := false }
def ShelfNilSaid : Prop := shelfNilRow.holds Try.pinned (OpenSpec.ofChange shelfNilSpec)

/-- ITS FALSE NEIGHBOUR: 'it returns false'. Refute it at one input. -/
def shelfNilWrong : ChangeSpec := { name := "shelfNil", fn := fun _ => fun
  | [d] => { results := [.lit (.bool false)], args := [d] }
  | _ => none }
def ShelfNilWrongFalsely : Prop := shelfNilRow.holds Try.pinned (OpenSpec.ofChange shelfNilWrong)

/- THE SECOND FORM. 'bulk': how many values and letters a reading holds, each counted each time it is reached (what is shared counts as often as it is met; a slice's spare places count too). A statement '..UptoSaid' is the law's where the arguments, and the package variables that the reading takes, are together of bulk at most 1048576: NARROWER than '..Said'. Prove '..Said' where nothing that the law and all that it calls make is longer than what came in: it says more and counts as full. Else prove '..UptoSaid'. A law counts once. -/
mutual
def uptoBulk {H : Type} : DataW H → Nat
  | .lit (.string bytes) => bytes.length + 1
  | .lit _ => 1
  | .nil => 1
  | .ptr d => uptoBulk d + 1
  | .slice elems spare => uptoBulkAll elems + uptoBulkAll spare + 1
  | .agg parts => uptoBulkAll parts + 1
  | .iface _ d => uptoBulk d + 1
  | .map entries => uptoBulkEntries entries + 1
  | .held _ => 1
def uptoBulkAll {H : Type} : List (DataW H) → Nat
  | [] => 0
  | d :: r => uptoBulk d + uptoBulkAll r
def uptoBulkEntries {H : Type} : List (Lit × DataW H) → Nat
  | [] => 0
  | x :: r => uptoBulkEntry x + uptoBulkEntries r
def uptoBulkEntry {H : Type} : Lit × DataW H → Nat
  | (.string bytes, d) => bytes.length + uptoBulk d + 1
  | (_, d) => uptoBulk d + 1
 end
def uptoSmall : (H : Type) → List (DataW H) → Bool := fun _ ds => decide (uptoBulkAll ds ≤ 1048576)
def OpenSpec.upto (s : _root_.Go.ChangeSpec) : _root_.Go.OpenSpec := { _root_.Go.OpenSpec.ofChange s with cond := some uptoSmall }

/-- 'miradorlaw34.RespondDue', WHERE WHAT IT READS IS OF BULK AT MOST 1048576: true; the input reads as it did. -/
def respondDueUptoRow : OpenClaim := { program := "ytclmdbiekpfggaa", sum := "a9ab53c06df76389d7ee1663813b606583d8fd6aa0247beaefedc9357f111722", func := "mirador/miradorlaw34.RespondDue", spec := "respondDue", plainKeys := false, apart := false, narrowed := true }
def RespondDueUptoSaid : Prop := respondDueUptoRow.holds Try.pinned (OpenSpec.upto respondDueSpec)

/-- 'miradorlaw23.SessionQuota', WHERE WHAT IT READS IS OF BULK AT MOST 1048576: true; the input reads as it did. -/
def sessionQuotaUptoRow : OpenClaim := { program := "ytclmdbiekpfggaa", sum := "a9ab53c06df76389d7ee1663813b606583d8fd6aa0247beaefedc9357f111722", func := "mirador/miradorlaw23.SessionQuota", spec := "sessionQuota", plainKeys := false, apart := false, narrowed := true }
def SessionQuotaUptoSaid : Prop := sessionQuotaUptoRow.holds Try.pinned (OpenSpec.upto sessionQuotaSpec)

/-- 'miradorlaw23.SessionDoes', WHERE WHAT IT READS IS OF BULK AT MOST 1048576: true; the input reads as it did. -/
def sessionDoesUptoRow : OpenClaim := { program := "ytclmdbiekpfggaa", sum := "a9ab53c06df76389d7ee1663813b606583d8fd6aa0247beaefedc9357f111722", func := "mirador/miradorlaw23.SessionDoes", spec := "sessionDoes", unfollowed := true, recurses := true, plainKeys := false, apart := false, narrowed := true }
def SessionDoesUptoSaid : Prop := sessionDoesUptoRow.holds Try.pinned (OpenSpec.upto sessionDoesSpec)

/-- 'miradorlaw23.SessionNil', WHERE WHAT IT READS IS OF BULK AT MOST 1048576: true; the input reads as it did. -/
def sessionNilUptoRow : OpenClaim := { program := "ytclmdbiekpfggaa", sum := "a9ab53c06df76389d7ee1663813b606583d8fd6aa0247beaefedc9357f111722", func := "mirador/miradorlaw23.SessionNil", spec := "sessionNil", unfollowed := true, recurses := true, plainKeys := false, apart := false, narrowed := true }
def SessionNilUptoSaid : Prop := sessionNilUptoRow.holds Try.pinned (OpenSpec.upto sessionNilSpec)

/-- 'miradorlaw38.FeedWays', WHERE WHAT IT READS IS OF BULK AT MOST 1048576: true; the input reads as it did. -/
def feedWaysUptoRow : OpenClaim := { program := "ytclmdbiekpfggaa", sum := "a9ab53c06df76389d7ee1663813b606583d8fd6aa0247beaefedc9357f111722", func := "mirador/miradorlaw38.FeedWays", spec := "feedWays", plainKeys := false, apart := false, narrowed := true }
def FeedWaysUptoSaid : Prop := feedWaysUptoRow.holds Try.pinned (OpenSpec.upto feedWaysSpec)

/-- 'miradorlaw38.FeedTells', WHERE WHAT IT READS IS OF BULK AT MOST 1048576: true; the input reads as it did. -/
def feedTellsUptoRow : OpenClaim := { program := "ytclmdbiekpfggaa", sum := "a9ab53c06df76389d7ee1663813b606583d8fd6aa0247beaefedc9357f111722", func := "mirador/miradorlaw38.FeedTells", spec := "feedTells", inPlace := ["internal/bytealg.abigen_runtime_cmpstring"], unfollowed := true, recurses := true, plainKeys := false, apart := false, narrowed := true }
def FeedTellsUptoSaid : Prop := feedTellsUptoRow.holds Try.pinned (OpenSpec.upto feedTellsSpec)

/-- 'miradorlaw38.FeedNil', WHERE WHAT IT READS IS OF BULK AT MOST 1048576: true; the input reads as it did. -/
def feedNilUptoRow : OpenClaim := { program := "ytclmdbiekpfggaa", sum := "a9ab53c06df76389d7ee1663813b606583d8fd6aa0247beaefedc9357f111722", func := "mirador/miradorlaw38.FeedNil", spec := "feedNil", inPlace := ["internal/bytealg.abigen_runtime_cmpstring"], unfollowed := true, recurses := true, plainKeys := false, apart := false, narrowed := true }
def FeedNilUptoSaid : Prop := feedNilUptoRow.holds Try.pinned (OpenSpec.upto feedNilSpec)

/-- 'miradorlaw25.ShelfFound', WHERE WHAT IT READS IS OF BULK AT MOST 1048576: true; the input reads as it did. -/
def shelfFoundUptoRow : OpenClaim := { program := "ytclmdbiekpfggaa", sum := "a9ab53c06df76389d7ee1663813b606583d8fd6aa0247beaefedc9357f111722", func := "mirador/miradorlaw25.ShelfFound", spec := "shelfFound", unfollowed := true, recurses := true, plainKeys := false, apart := false, narrowed := true }
def ShelfFoundUptoSaid : Prop := shelfFoundUptoRow.holds Try.pinned (OpenSpec.upto shelfFoundSpec)

/-- 'miradorlaw25.ShelfApart', WHERE WHAT IT READS IS OF BULK AT MOST 1048576: true; the input reads as it did. -/
def shelfApartUptoRow : OpenClaim := { program := "ytclmdbiekpfggaa", sum := "a9ab53c06df76389d7ee1663813b606583d8fd6aa0247beaefedc9357f111722", func := "mirador/miradorlaw25.ShelfApart", spec := "shelfApart", unfollowed := true, recurses := true, plainKeys := false, apart := false, narrowed := true }
def ShelfApartUptoSaid : Prop := shelfApartUptoRow.holds Try.pinned (OpenSpec.upto shelfApartSpec)

/-- 'miradorlaw25.ShelfDoes', WHERE WHAT IT READS IS OF BULK AT MOST 1048576: true; the input reads as it did. -/
def shelfDoesUptoRow : OpenClaim := { program := "ytclmdbiekpfggaa", sum := "a9ab53c06df76389d7ee1663813b606583d8fd6aa0247beaefedc9357f111722", func := "mirador/miradorlaw25.ShelfDoes", spec := "shelfDoes", unfollowed := true, recurses := true, plainKeys := false, apart := false, narrowed := true }
def ShelfDoesUptoSaid : Prop := shelfDoesUptoRow.holds Try.pinned (OpenSpec.upto shelfDoesSpec)

/-- 'miradorlaw25.ShelfNil', WHERE WHAT IT READS IS OF BULK AT MOST 1048576: true; the input reads as it did. -/
def shelfNilUptoRow : OpenClaim := { program := "ytclmdbiekpfggaa", sum := "a9ab53c06df76389d7ee1663813b606583d8fd6aa0247beaefedc9357f111722", func := "mirador/miradorlaw25.ShelfNil", spec := "shelfNil", unfollowed := true, recurses := true, plainKeys := false, apart := false, narrowed := true }
def ShelfNilUptoSaid : Prop := shelfNilUptoRow.holds Try.pinned (OpenSpec.upto shelfNilSpec)

end Rows
end Go.Proofs.Ytclmdbiekpfggaa
