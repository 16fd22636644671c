/- The law SeenNil: for every input the call returns true, and the input reads as it did. No condition. -/
import Derived.Test.YthcapeihhldpcaaLaw
import Derived.Test.YthcapeihhldpcaaOpenK
import Derived.Test.YthcapeihhldpcaaSeenNilL
namespace Go.Proofs.Ythcapeihhldpcaa.seenNil
open Go.ChangeShapes Go.WideShapes Go.ChangeAt Go.RowKit
set_option maxRecDepth 100000
set_option maxHeartbeats 2000000
set_option linter.unusedVariables false

theorem own : ownKnob Try.prog.godebug = none := by kernel_rfl

theorem contract (H : Type) (enc : TypeId × Value → H) (W : World) (base : Nat) (args : Array Value) (ds gs : List (DataW H)) (before : List MemPlace)
    (hval : ∀ (j : Nat) t v, Try.f4.params[j]? = some t → args[j]? = some v → Value.okWide Try.prog W .any base t v)
    (hW : DataW.Whole enc Try.prog Try.f4.params.toList Rows.seenNilSpec.vars false W args.toList ds gs before) :
    Calls Try.prog 4 args W fun e W' => ∃ v, e = .returned v ∧ Rows.seenNilSpec.post enc Try.prog Try.f4 false true false false W args v W' := by
  have hW' := hW
  obtain ⟨p, q, hA0, hV, rfl, hfz, hnd⟩ := hW
  have hA : DataW.TrodAll enc Try.prog W 0 (fun _ => true) true Try.f4.params.toList args.toList ds p := hA0
  rw [Try.params4] at hA hval
  obtain ⟨v0, vs0, d0, ds0, p0, q0, hargs, rfl, rfl, h0, r0⟩ := trodAll_cons hA
  obtain ⟨v1, vs1, d1, ds1, p1, q1, rfl, rfl, rfl, h1, r1⟩ := trodAll_cons r0
  obtain ⟨rfl, rfl, rfl⟩ := trodAll_nil r1
  obtain rfl : args = #[v0, v1] := by cases args; simp_all
  obtain ⟨rfl, rfl⟩ := trodVars_none hV
  have hv0 := hval 0 _ v0 rfl rfl
  have hv1 := hval 1 _ v1 rfl rfl
  clear hA0 hval
  have main : Calls Try.prog 4 #[v0, v1] W fun e W' => e = .returned (.bool true) ∧ Chg N0 W W' := by
    obtain ⟨a0, rfl, rfl, rfl, w0⟩ := open_int Try.underlying27 hv0 h0
    obtain ⟨x, rfl⟩ := lit_u32 w0
    obtain ⟨cs1, rfl, g1⟩ := agg_arg (by kernel_rfl) hv1 h1
    obtain ⟨B, rfl, hB⟩ := rdb_blk g1
    exact seenNil_any x B
  refine main.mono fun e W' ⟨he, hc⟩ => ?_
  subst he
  exact ⟨_, rfl, law_post (kids_rows (by kernel_rfl) (by kernel_rfl)) (slices_full_of _ (by kernel_rfl)) (of_decide_eq_true (by kernel_rfl)) rfl Try.underlying4 rfl rfl hW' hc⟩

theorem lifted (os : Os) (started : os.Started) (H : Type) (enc : TypeId × Value → H) :
    ReturnsInHanded {} Try.checked os 4 .any (Rows.seenNilSpec.pre6 enc Try.prog Try.f4 Rows.seenNilRow.domain false) (Rows.seenNilSpec.post enc Try.prog Try.f4 false true false false) := by
  refine returnsInHanded_of_change (C := Try.checked) own started (by kernel_rfl) Try.func4
    (ChangeSpec.witness6 (enc := enc) (C := Try.checked) false ⟨#[], #[.int .u32 0, Blk.v ⟨Id.z, Id.z, Sl.nil⟩], []⟩ 8 (by kernel_rfl) (by kernel_rfl) (by kernel_rfl) (by kernel_rfl)) ?_
  intro W base args ds gs before hval hW _ _
  exact contract H enc W base args ds gs before hval hW

theorem over : Rows.seenNilRow.holds Try.pinned (OpenSpec.ofChange Rows.seenNilSpec) :=
  OpenClaim.holds_of_wide 4 Try.f4 rfl rfl rfl rfl rfl rfl rfl ⟨rfl, rfl, rfl, rfl, rfl⟩ rfl rfl rfl rfl rfl (by kernel_rfl) Try.func4 (by kernel_rfl)
    (of_decide_eq_true (by kernel_rfl)) (by unfold Func.isWrapper; first | (rw [if_pos (by decide +kernel)]; kernel_rfl) | (rw [if_neg (by decide +kernel)]; exact ⟨rfl, rfl⟩))
    (fun os started H enc _ => lifted os started H enc)

theorem proved : Rows.SeenNilSaid :=
  over
end Go.Proofs.Ythcapeihhldpcaa.seenNil
namespace Go.Proofs.Ythcapeihhldpcaa
set_option linter.unusedSimpArgs false
set_option linter.unusedVariables false
theorem seenNil_holds : Rows.SeenNilSaid := seenNil.proved
end Go.Proofs.Ythcapeihhldpcaa
