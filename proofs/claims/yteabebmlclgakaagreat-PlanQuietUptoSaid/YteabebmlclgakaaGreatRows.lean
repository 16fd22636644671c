/-
  No cell of these rows narrows 'for every input' (looked for: loops, veiled, ifaces, maps, wideKeys, modest, calm, conditions, laid).
  DERIVED. THE GIVEN ROWS OF THIS SEAT. 6 by the template 'for every input the law returns true; each argument reads behind the call as it read before'; 0 by the template 'total and deterministic' (their statements: YteabebmlclgakaaGreatTotals.lean).
  GIVEN WITH THE SEED: the statements are not yours to turn. If you find one false, say at which input.
  Laid BY PROGRAM, IN A SANDBOX (cutbox-rows.mjs): the forced cells as the released guide's own fill.sh prints them over the translation 26e8fc369094411b… (all of the seat's roots in one cut). By AI agents, Wed Nov 11 2026. No macro, syntax, notation, axiom, sorry.
-/
import Derived.Test.YteabebmlclgakaaGreatChecked
import GoSem.Claim
import GoSem.ClaimJoined
import GoSem.ClaimMapViews
import Derived.JoinedTies
import Derived.KernelRfl
namespace Go.Proofs.YteabebmlclgakaaGreat
/- THE CELL 'sum', in the pinned program and in every row, IS THE sha256 OF THE DUMP (.gsa) THAT YteabebmlclgakaaGreatProg.lean LOADS. Nothing in Lean hashes anything: it is a label: what it is worth is what the hold of that sum in a sandbox is worth. -/
noncomputable def Tryz.pinned : Pinned := { name := "yteabebmlclgakaagreat", sum := "26e8fc369094411b717fb534d0e6c5396da1e9b6c2522f8e45cbe808404bd1e5", checked := Tryz.checked }
namespace Rows
def none {H : Type} : Left H := { results := [], args := [] }

/-- 'miradorlaw32.ImprintRests': WHATEVER THE INPUT: true; the input reads as it did. -/
def imprintRestsSpec : ChangeSpec := { name := "imprintRests", fn := fun _ => fun
  | [d] => { results := [.lit (.bool true)], args := [d] }
  | _ => none }
def imprintRestsRow : OpenClaim := { program := "yteabebmlclgakaagreat", sum := "26e8fc369094411b717fb534d0e6c5396da1e9b6c2522f8e45cbe808404bd1e5", func := "mirador/miradorlaw32.ImprintRests", spec := "imprintRests", unfollowed := true, recurses := true, plainKeys := false, apart := false }
def ImprintRestsSaid : Prop := imprintRestsRow.holds Tryz.pinned (OpenSpec.ofChange imprintRestsSpec)

/-- ITS FALSE NEIGHBOUR: 'it returns false'. Refute it at one input. -/
def imprintRestsWrong : ChangeSpec := { name := "imprintRests", fn := fun _ => fun
  | [d] => { results := [.lit (.bool false)], args := [d] }
  | _ => none }
def ImprintRestsWrongFalsely : Prop := imprintRestsRow.holds Tryz.pinned (OpenSpec.ofChange imprintRestsWrong)

/-- 'miradorlaw34.RespondEvicted': WHATEVER THE INPUT: true; the input reads as it did. -/
def respondEvictedSpec : ChangeSpec := { name := "respondEvicted", fn := fun _ => fun
  | [d1, d2] => { results := [.lit (.bool true)], args := [d1, d2] }
  | _ => none }
def respondEvictedRow : OpenClaim := { program := "yteabebmlclgakaagreat", sum := "26e8fc369094411b717fb534d0e6c5396da1e9b6c2522f8e45cbe808404bd1e5", func := "mirador/miradorlaw34.RespondEvicted", spec := "respondEvicted", unfollowed := true, recurses := true, plainKeys := false, apart := false }
def RespondEvictedSaid : Prop := respondEvictedRow.holds Tryz.pinned (OpenSpec.ofChange respondEvictedSpec)

/-- ITS FALSE NEIGHBOUR: 'it returns false'. Refute it at one input. -/
def respondEvictedWrong : ChangeSpec := { name := "respondEvicted", fn := fun _ => fun
  | [d1, d2] => { results := [.lit (.bool false)], args := [d1, d2] }
  | _ => none }
def RespondEvictedWrongFalsely : Prop := respondEvictedRow.holds Tryz.pinned (OpenSpec.ofChange respondEvictedWrong)

/-- 'miradorlaw34.RespondAll': WHATEVER THE INPUT: true; the input reads as it did. -/
def respondAllSpec : ChangeSpec := { name := "respondAll", fn := fun _ => fun
  | [d] => { results := [.lit (.bool true)], args := [d] }
  | _ => none }
def respondAllRow : OpenClaim := { program := "yteabebmlclgakaagreat", sum := "26e8fc369094411b717fb534d0e6c5396da1e9b6c2522f8e45cbe808404bd1e5", func := "mirador/miradorlaw34.RespondAll", spec := "respondAll", unfollowed := true, recurses := true, plainKeys := false, apart := false }
def RespondAllSaid : Prop := respondAllRow.holds Tryz.pinned (OpenSpec.ofChange respondAllSpec)

/-- ITS FALSE NEIGHBOUR: 'it returns false'. Refute it at one input. -/
def respondAllWrong : ChangeSpec := { name := "respondAll", fn := fun _ => fun
  | [d] => { results := [.lit (.bool false)], args := [d] }
  | _ => none }
def RespondAllWrongFalsely : Prop := respondAllRow.holds Tryz.pinned (OpenSpec.ofChange respondAllWrong)

/-- 'miradorlaw37.AuditTells': WHATEVER THE INPUT: true; the input reads as it did. -/
def auditTellsSpec : ChangeSpec := { name := "auditTells", fn := fun _ => fun
  | [d1, d2] => { results := [.lit (.bool true)], args := [d1, d2] }
  | _ => none }
def auditTellsRow : OpenClaim := { program := "yteabebmlclgakaagreat", sum := "26e8fc369094411b717fb534d0e6c5396da1e9b6c2522f8e45cbe808404bd1e5", func := "mirador/miradorlaw37.AuditTells", spec := "auditTells", inPlace := ["internal/abi.NoEscape", "internal/bytealg.MakeNoZero"], unfollowed := true, recurses := true, plainKeys := false, apart := false }
def AuditTellsSaid : Prop := auditTellsRow.holds Tryz.pinned (OpenSpec.ofChange auditTellsSpec)

/-- ITS FALSE NEIGHBOUR: 'it returns false'. Refute it at one input. -/
def auditTellsWrong : ChangeSpec := { name := "auditTells", fn := fun _ => fun
  | [d1, d2] => { results := [.lit (.bool false)], args := [d1, d2] }
  | _ => none }
def AuditTellsWrongFalsely : Prop := auditTellsRow.holds Tryz.pinned (OpenSpec.ofChange auditTellsWrong)

/-- 'miradorlaw43.PlanTells': WHATEVER THE INPUT: true; the input reads as it did. -/
def planTellsSpec : ChangeSpec := { name := "planTells", fn := fun _ => fun
  | [d1, d2] => { results := [.lit (.bool true)], args := [d1, d2] }
  | _ => none }
def planTellsRow : OpenClaim := { program := "yteabebmlclgakaagreat", sum := "26e8fc369094411b717fb534d0e6c5396da1e9b6c2522f8e45cbe808404bd1e5", func := "mirador/miradorlaw43.PlanTells", spec := "planTells", unfollowed := true, recurses := true, plainKeys := false, apart := false }
def PlanTellsSaid : Prop := planTellsRow.holds Tryz.pinned (OpenSpec.ofChange planTellsSpec)

/-- ITS FALSE NEIGHBOUR: 'it returns false'. Refute it at one input. -/
def planTellsWrong : ChangeSpec := { name := "planTells", fn := fun _ => fun
  | [d1, d2] => { results := [.lit (.bool false)], args := [d1, d2] }
  | _ => none }
def PlanTellsWrongFalsely : Prop := planTellsRow.holds Tryz.pinned (OpenSpec.ofChange planTellsWrong)

/-- 'miradorlaw43.PlanQuiet': WHATEVER THE INPUT: true; the input reads as it did. -/
def planQuietSpec : ChangeSpec := { name := "planQuiet", fn := fun _ => fun
  | [d1, d2, d3] => { results := [.lit (.bool true)], args := [d1, d2, d3] }
  | _ => none }
def planQuietRow : OpenClaim := { program := "yteabebmlclgakaagreat", sum := "26e8fc369094411b717fb534d0e6c5396da1e9b6c2522f8e45cbe808404bd1e5", func := "mirador/miradorlaw43.PlanQuiet", spec := "planQuiet", unfollowed := true, recurses := true, plainKeys := false, apart := false }
def PlanQuietSaid : Prop := planQuietRow.holds Tryz.pinned (OpenSpec.ofChange planQuietSpec)

/-- ITS FALSE NEIGHBOUR: 'it returns false'. Refute it at one input. -/
def planQuietWrong : ChangeSpec := { name := "planQuiet", fn := fun _ => fun
  | [d1, d2, d3] => { results := [.lit (.bool false)], args := [d1, d2, d3] }
  | _ => none }
def PlanQuietWrongFalsely : Prop := planQuietRow.holds Tryz.pinned (OpenSpec.ofChange planQuietWrong)

/- THE SECOND FORM. 'bulk': how many values and letters a reading holds, each counted each time it is reached (what is shared counts as often as it is met; a slice's spare places count too). A statement '..UptoSaid' is the law's where the arguments, and the package variables that the reading takes, are together of bulk at most 1048576: NARROWER than '..Said'. Prove '..Said' where nothing that the law and all that it calls make is longer than what came in: it says more and counts as full. Else prove '..UptoSaid'. A law counts once. -/
mutual
def uptoBulk {H : Type} : DataW H → Nat
  | .lit (.string bytes) => bytes.length + 1
  | .lit _ => 1
  | .nil => 1
  | .ptr d => uptoBulk d + 1
  | .slice elems spare => uptoBulkAll elems + uptoBulkAll spare + 1
  | .agg parts => uptoBulkAll parts + 1
  | .iface _ d => uptoBulk d + 1
  | .map entries => uptoBulkEntries entries + 1
  | .held _ => 1
def uptoBulkAll {H : Type} : List (DataW H) → Nat
  | [] => 0
  | d :: r => uptoBulk d + uptoBulkAll r
def uptoBulkEntries {H : Type} : List (Lit × DataW H) → Nat
  | [] => 0
  | x :: r => uptoBulkEntry x + uptoBulkEntries r
def uptoBulkEntry {H : Type} : Lit × DataW H → Nat
  | (.string bytes, d) => bytes.length + uptoBulk d + 1
  | (_, d) => uptoBulk d + 1
 end
def uptoSmall : (H : Type) → List (DataW H) → Bool := fun _ ds => decide (uptoBulkAll ds ≤ 1048576)
def OpenSpec.upto (s : _root_.Go.ChangeSpec) : _root_.Go.OpenSpec := { _root_.Go.OpenSpec.ofChange s with cond := some uptoSmall }

/-- 'miradorlaw32.ImprintRests', WHERE WHAT IT READS IS OF BULK AT MOST 1048576: true; the input reads as it did. -/
def imprintRestsUptoRow : OpenClaim := { program := "yteabebmlclgakaagreat", sum := "26e8fc369094411b717fb534d0e6c5396da1e9b6c2522f8e45cbe808404bd1e5", func := "mirador/miradorlaw32.ImprintRests", spec := "imprintRests", unfollowed := true, recurses := true, plainKeys := false, apart := false, narrowed := true }
def ImprintRestsUptoSaid : Prop := imprintRestsUptoRow.holds Tryz.pinned (OpenSpec.upto imprintRestsSpec)

/-- 'miradorlaw34.RespondEvicted', WHERE WHAT IT READS IS OF BULK AT MOST 1048576: true; the input reads as it did. -/
def respondEvictedUptoRow : OpenClaim := { program := "yteabebmlclgakaagreat", sum := "26e8fc369094411b717fb534d0e6c5396da1e9b6c2522f8e45cbe808404bd1e5", func := "mirador/miradorlaw34.RespondEvicted", spec := "respondEvicted", unfollowed := true, recurses := true, plainKeys := false, apart := false, narrowed := true }
def RespondEvictedUptoSaid : Prop := respondEvictedUptoRow.holds Tryz.pinned (OpenSpec.upto respondEvictedSpec)

/-- 'miradorlaw34.RespondAll', WHERE WHAT IT READS IS OF BULK AT MOST 1048576: true; the input reads as it did. -/
def respondAllUptoRow : OpenClaim := { program := "yteabebmlclgakaagreat", sum := "26e8fc369094411b717fb534d0e6c5396da1e9b6c2522f8e45cbe808404bd1e5", func := "mirador/miradorlaw34.RespondAll", spec := "respondAll", unfollowed := true, recurses := true, plainKeys := false, apart := false, narrowed := true }
def RespondAllUptoSaid : Prop := respondAllUptoRow.holds Tryz.pinned (OpenSpec.upto respondAllSpec)

/-- 'miradorlaw37.AuditTells', WHERE WHAT IT READS IS OF BULK AT MOST 1048576: true; the input reads as it did. -/
def auditTellsUptoRow : OpenClaim := { program := "yteabebmlclgakaagreat", sum := "26e8fc369094411b717fb534d0e6c5396da1e9b6c2522f8e45cbe808404bd1e5", func := "mirador/miradorlaw37.AuditTells", spec := "auditTells", inPlace := ["internal/abi.NoEscape", "internal/bytealg.MakeNoZero"], unfollowed := true, recurses := true, plainKeys := false, apart := false, narrowed := true }
def AuditTellsUptoSaid : Prop := auditTellsUptoRow.holds Tryz.pinned (OpenSpec.upto auditTellsSpec)

/-- 'miradorlaw43.PlanTells', WHERE WHAT IT READS IS OF BULK AT MOST 1048576: true; the input reads as it did. -/
def planTellsUptoRow : OpenClaim := { program := "yteabebmlclgakaagreat", sum := "26e8fc369094411b717fb534d0e6c5396da1e9b6c2522f8e45cbe808404bd1e5", func := "mirador/miradorlaw43.PlanTells", spec := "planTells", unfollowed := true, recurses := true, plainKeys := false, apart := false, narrowed := true }
def PlanTellsUptoSaid : Prop := planTellsUptoRow.holds Tryz.pinned (OpenSpec.upto planTellsSpec)

/-- 'miradorlaw43.PlanQuiet', WHERE WHAT IT READS IS OF BULK AT MOST 1048576: true; the input reads as it did. -/
def planQuietUptoRow : OpenClaim := { program := "yteabebmlclgakaagreat", sum := "26e8fc369094411b717fb534d0e6c5396da1e9b6c2522f8e45cbe808404bd1e5", func := "mirador/miradorlaw43.PlanQuiet", spec := "planQuiet", unfollowed := true, recurses := true, plainKeys := false, apart := false, narrowed := true }
def PlanQuietUptoSaid : Prop := planQuietUptoRow.holds Tryz.pinned (OpenSpec.upto planQuietSpec)

end Rows
end Go.Proofs.YteabebmlclgakaaGreat
