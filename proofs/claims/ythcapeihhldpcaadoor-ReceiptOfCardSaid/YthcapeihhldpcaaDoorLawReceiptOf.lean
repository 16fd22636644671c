/- The law ReceiptOf: for every input the call returns true, and the input reads as it did. No condition. -/
import Derived.Test.YthcapeihhldpcaaDoorLaw
import Derived.Test.YthcapeihhldpcaaDoorCards
import Derived.Test.YthcapeihhldpcaaDoorTie
import Derived.SevenTiedAt
import Derived.Stop.Joined
import Derived.Test.YthcapeihhldpcaaDoorOpenM
import Derived.Test.YthcapeihhldpcaaDoorRecOf
namespace Go.Proofs.YthcapeihhldpcaaDoor.receiptOf
open Go.ChangeShapes Go.WideShapes Go.ChangeAt Go.RowKit
set_option maxRecDepth 100000
set_option maxHeartbeats 2000000
set_option linter.unusedVariables false

theorem own : ownKnob Tryd.prog.godebug = none := by kernel_rfl

theorem contract (H : Type) (enc : TypeId × Value → H) (W : World) (base : Nat) (args : Array Value) (ds gs : List (DataW H)) (before : List MemPlace)
    (hval : ∀ (j : Nat) t v, Tryd.f4.params[j]? = some t → args[j]? = some v → Value.okWide Tryd.prog W .any base t v)
    (hW : DataW.Whole enc Tryd.prog Tryd.f4.params.toList Rows.receiptOfSpec.vars false W args.toList ds gs before) :
    Calls Tryd.prog 4 args W fun e W' => ∃ v, e = .returned v ∧ Rows.receiptOfSpec.post enc Tryd.prog Tryd.f4 false true false false W args v W' := by
  have hW' := hW
  obtain ⟨p, q, hA0, hV, rfl, hfz, hnd⟩ := hW
  have hA : DataW.TrodAll enc Tryd.prog W 0 (fun _ => true) true Tryd.f4.params.toList args.toList ds p := hA0
  rw [Tryd.params4] at hA hval
  obtain ⟨v0, vs0, d0, ds0, p0, q0, hargs, rfl, rfl, h0, r0⟩ := trodAll_cons hA
  obtain ⟨v1, vs1, d1, ds1, p1, q1, rfl, rfl, rfl, h1, r1⟩ := trodAll_cons r0
  obtain ⟨v2, vs2, d2, ds2, p2, q2, rfl, rfl, rfl, h2, r2⟩ := trodAll_cons r1
  obtain ⟨rfl, rfl, rfl⟩ := trodAll_nil r2
  obtain rfl : args = #[v0, v1, v2] := by cases args; simp_all
  obtain ⟨rfl, rfl⟩ := trodVars_none hV
  have hv0 := hval 0 _ v0 rfl rfl
  have hv1 := hval 1 _ v1 rfl rfl
  have hv2 := hval 2 _ v2 rfl rfl
  clear hA0 hval
  have main : Calls Tryd.prog 4 #[v0, v1, v2] W fun e W' => e = .returned (.bool true) ∧ Chg N0 W W' := by
    obtain ⟨cs0, rfl, g0⟩ := agg_arg (by kernel_rfl) hv0 h0
    obtain ⟨m, rfl, hm⟩ := rdb_msg g0
    obtain ⟨cs1, rfl, g1⟩ := agg_arg (by kernel_rfl) hv1 h1
    obtain ⟨n, rfl, hn⟩ := rdb_msg g1
    obtain ⟨cs2, rfl, g2⟩ := agg_arg (by kernel_rfl) hv2 h2
    obtain ⟨r, rfl⟩ := rdb_rpl g2
    exact recOf_any hm hn r
  refine main.mono fun e W' ⟨he, hc⟩ => ?_
  subst he
  exact ⟨_, rfl, law_post (kids_rows (by kernel_rfl) (by kernel_rfl)) (slices_full_of _ (by kernel_rfl)) (of_decide_eq_true (by kernel_rfl)) rfl Tryd.underlying4 rfl rfl hW' hc⟩

abbrev laids : List (String × DataW Unit) := [("errors.errorType", Rows.laid_errors_errorType)]
/-- a world in which the listed variable is laid -/
noncomputable def laidWorld (os : Os) : World :=
  let w0 := World.holding Tryd.prog os ⟨#[], #[], []⟩
  { w0 with heap := w0.heap.modify 0 fun
      | .cells _ t frozen => .cells #[.iface 136 (.agg #[.pointer (some ⟨1, 74, none⟩)])] t frozen
      | o => o }
theorem laidWorld_met (os : Os) (args : Array Value) : laidMetH Tryd.prog laids ((laidWorld os).forCall (fun _ _ => 0) ⟨#[], args, []⟩).memory :=
  laidMetH_of_parts (laidMet_nil _ _) (by kernel_rfl)
theorem lifted (os : Os) (started : os.Started) (H : Type) (enc : TypeId × Value → H) :
    ReturnsInHanded {} Tryd.checked os 4 .any (fun w args => (Rows.receiptOfSpec.pre enc Tryd.prog Tryd.f4 Rows.receiptOfRow.domain false w args ∧ laidMetH Tryd.prog laids w) ∧ sizedMet enc Tryd.prog Tryd.f4 (OpenSpec.ofChange Rows.receiptOfSpec) false w args)
      (Rows.receiptOfSpec.post enc Tryd.prog Tryd.f4 false true false false) := by
  refine returnsInHanded_of_change_and (C := Tryd.checked) (X := fun w _ => laidMetH Tryd.prog laids w) (fun _ _ _ hh h => h.of_heap hh) own started (by kernel_rfl) Tryd.func4
    (ChangeSpec.witness_at (enc := enc) (C := Tryd.checked) (os := os) (X := fun w _ => laidMetH Tryd.prog laids w) false (laidWorld os) #[Msg.v ⟨0, 0, 0, 0, vecL 16 [], Sl.nil⟩, Msg.v ⟨0, 0, 0, 0, vecL 16 [], Sl.nil⟩, Rpl.v ⟨0, 0, 0, 0, 0, 0, 0⟩] 8 rfl (by kernel_rfl) (by kernel_rfl) (by kernel_rfl) (by kernel_rfl) (by kernel_rfl) (laidWorld_met os _)) ?_
  intro W base args ds gs before hval hW _ _ _ _
  exact contract H enc W base args ds gs before hval hW

theorem over : Rows.receiptOfRow.holds Tryd.pinned (OpenSpec.ofChange Rows.receiptOfSpec) :=
  OpenClaim.holds_of_wide 4 Tryd.f4 rfl rfl rfl rfl rfl rfl rfl ⟨rfl, rfl, rfl, rfl, rfl⟩ rfl rfl rfl rfl rfl (by kernel_rfl) Tryd.func4 (by kernel_rfl)
    (of_decide_eq_true (by kernel_rfl)) (by unfold Func.isWrapper; first | (rw [if_pos (by decide +kernel)]; kernel_rfl) | (rw [if_neg (by decide +kernel)]; exact ⟨rfl, rfl⟩))
    (fun os started H enc _ => lifted os started H enc)

theorem proved : Rows.ReceiptOfCardSaid :=
  Claim7.holds_tied_plain_at .later [] [.handle] true (true, "713483f43b8970f02e3e81a8206c19a0f39edac9dc5892499195335061bcdd14") true
    over (fun _ h => by cases h) (by kernel_rfl) (fun _ h => by cases h) receiptOf_row_tie rfl ⟨rfl, rfl⟩ (by kernel_rfl) rfl
    (fun f fn hf hfn => by
      obtain rfl : f = 4 := Option.some.inj ((show Tryd.prog.funcNamed "mirador/miradorlaw41.ReceiptOf" = some 4 by kernel_rfl).symm.trans hf) |>.symm
      obtain rfl : fn = Tryd.f4 := (Option.some.inj (Tryd.func4.symm.trans hfn)).symm
      exact ⟨by kernel_rfl, fun j t ht => by
          rw [Tryd.params4] at ht
          rcases j with _ | j
          · obtain rfl : t = 41 := by simpa using ht.symm
            exact (show Tryd.prog.wantsStandIn 41 = false by kernel_rfl)
          rcases j with _ | j
          · obtain rfl : t = 41 := by simpa using ht.symm
            exact (show Tryd.prog.wantsStandIn 41 = false by kernel_rfl)
          rcases j with _ | j
          · obtain rfl : t = 43 := by simpa using ht.symm
            exact (show Tryd.prog.wantsStandIn 43 = false by kernel_rfl)
          simp at ht⟩)
    (by kernel_rfl)
end Go.Proofs.YthcapeihhldpcaaDoor.receiptOf
namespace Go.Proofs.YthcapeihhldpcaaDoor
set_option linter.unusedSimpArgs false
set_option linter.unusedVariables false
theorem receiptOf_holds : Rows.ReceiptOfCardSaid := receiptOf.proved
end Go.Proofs.YthcapeihhldpcaaDoor
