/- The law PoolDoes: for every input the call returns true, and the input reads as it did. No condition. -/
import Derived.Test.YthcapeihhldpcaaLaw
import Derived.Test.YthcapeihhldpcaaOpenE
import Derived.Test.YthcapeihhldpcaaPoolDoes
namespace Go.Proofs.Ythcapeihhldpcaa.poolDoes
open Go.ChangeShapes Go.WideShapes Go.ChangeAt Go.RowKit
set_option maxRecDepth 100000
set_option maxHeartbeats 2000000
set_option linter.unusedVariables false

theorem own : ownKnob Try.prog.godebug = none := by kernel_rfl

theorem contract (H : Type) (enc : TypeId × Value → H) (W : World) (base : Nat) (args : Array Value) (ds gs : List (DataW H)) (before : List MemPlace)
    (hval : ∀ (j : Nat) t v, Try.f6.params[j]? = some t → args[j]? = some v → Value.okWide Try.prog W .any base t v)
    (hW : DataW.Whole enc Try.prog Try.f6.params.toList Rows.poolDoesSpec.vars false W args.toList ds gs before) :
    Calls Try.prog 6 args W fun e W' => ∃ v, e = .returned v ∧ Rows.poolDoesSpec.post enc Try.prog Try.f6 false true false false W args v W' := by
  have hW' := hW
  obtain ⟨p, q, hA0, hV, rfl, hfz, hnd⟩ := hW
  have hA : DataW.TrodAll enc Try.prog W 0 (fun _ => true) true Try.f6.params.toList args.toList ds p := hA0
  rw [Try.params6] at hA hval
  obtain ⟨v0, vs0, d0, ds0, p0, q0, hargs, rfl, rfl, h0, r0⟩ := trodAll_cons hA
  obtain ⟨rfl, rfl, rfl⟩ := trodAll_nil r0
  obtain rfl : args = #[v0] := by cases args; simp_all
  obtain ⟨rfl, rfl⟩ := trodVars_none hV
  have hv0 := hval 0 _ v0 rfl rfl
  clear hA0 hval
  have main : Calls Try.prog 6 #[v0] W fun e W' => e = .returned (.bool true) ∧ Chg N0 W W' := by
    have g0 := slice_arg Try.underlying87 hv0 h0
    obtain ⟨s, hs, hat, hq⟩ := rdb_slice (ec := Opp.c) (sz := 103) (Q := fun x => SlAt W.heap.size W u8L 1 x.s.tx ∧ SlAt W.heap.size W Id.c 32 x.b.tx) Try.underlying87 (by kernel_rfl) (by omega) (fun c _ hc => rdb_opp hc) g0
    obtain rfl : v0 = s.v := by simpa using hs
    exact poolDoes_any ⟨hat, fun x hx => (hq x hx).1, fun x hx => (hq x hx).2⟩ (Nat.le_refl _)
  refine main.mono fun e W' ⟨he, hc⟩ => ?_
  subst he
  exact ⟨_, rfl, law_post (kids_rows (by kernel_rfl) (by kernel_rfl)) (slices_full_of _ (by kernel_rfl)) (of_decide_eq_true (by kernel_rfl)) rfl Try.underlying4 rfl rfl hW' hc⟩

theorem lifted (os : Os) (started : os.Started) (H : Type) (enc : TypeId × Value → H) :
    ReturnsInHanded {} Try.checked os 6 .any (Rows.poolDoesSpec.pre6 enc Try.prog Try.f6 Rows.poolDoesRow.domain false) (Rows.poolDoesSpec.post enc Try.prog Try.f6 false true false false) := by
  refine returnsInHanded_of_change (C := Try.checked) own started (by kernel_rfl) Try.func6
    (ChangeSpec.witness6 (enc := enc) (C := Try.checked) false ⟨#[], #[.slice none 0 0], []⟩ 8 (by kernel_rfl) (by kernel_rfl) (by kernel_rfl) (by kernel_rfl)) ?_
  intro W base args ds gs before hval hW _ _
  exact contract H enc W base args ds gs before hval hW

theorem over : Rows.poolDoesRow.holds Try.pinned (OpenSpec.ofChange Rows.poolDoesSpec) :=
  OpenClaim.holds_of_wide 6 Try.f6 rfl rfl rfl rfl rfl rfl rfl ⟨rfl, rfl, rfl, rfl, rfl⟩ rfl rfl rfl rfl rfl (by kernel_rfl) Try.func6 (by kernel_rfl)
    (of_decide_eq_true (by kernel_rfl)) (by unfold Func.isWrapper; first | (rw [if_pos (by decide +kernel)]; kernel_rfl) | (rw [if_neg (by decide +kernel)]; exact ⟨rfl, rfl⟩))
    (fun os started H enc _ => lifted os started H enc)

theorem proved : Rows.PoolDoesSaid :=
  over
end Go.Proofs.Ythcapeihhldpcaa.poolDoes
namespace Go.Proofs.Ythcapeihhldpcaa
set_option linter.unusedSimpArgs false
set_option linter.unusedVariables false
theorem poolDoes_holds : Rows.PoolDoesSaid := poolDoes.proved
end Go.Proofs.Ythcapeihhldpcaa
