/- The law SeenDoes: for every input the call returns true, and the input reads as it did. No condition. -/
import Derived.Test.YtdncnepedkkamaaMSeenDoes1
import Derived.Test.YtdncnepedkkamaaMSeenDoes33
import Derived.Test.YtdncnepedkkamaaMSeenDoessSeenDoes
namespace Go.Proofs.Ytdncnepedkkamaa.seenDoes
open Go.ChangeShapes Go.WideShapes Go.ChangeAt Go.RowKit
set_option maxRecDepth 100000
set_option maxHeartbeats 2000000
set_option linter.unusedVariables false
theorem own : ownKnob Try.prog.godebug = none := by kernel_rfl
theorem contract (H : Type) (enc : TypeId × Value → H) (W : World) (base : Nat) (args : Array Value) (ds gs : List (DataW H)) (before : List MemPlace)
    (hval : ∀ (j : Nat) t v, Try.f4.params[j]? = some t → args[j]? = some v → Value.okWide Try.prog W .any base t v)
    (hW : DataW.Whole enc Try.prog Try.f4.params.toList Rows.seenDoesSpec.vars false W args.toList ds gs before) :
    Calls Try.prog 4 args W fun e W' => ∃ v, e = .returned v ∧ Rows.seenDoesSpec.post enc Try.prog Try.f4 false true false false W args v W' := by
  have hW' := hW
  obtain ⟨p, q, hA0, hV, rfl, hfz, hnd⟩ := hW
  have hA : DataW.TrodAll enc Try.prog W 0 (fun _ => true) true Try.f4.params.toList args.toList ds p := hA0
  rw [Try.params4] at hA hval
  obtain ⟨v0, vs0, d0, ds0, p0, q0, hargs, rfl, rfl, h0, r0⟩ := trodAll_cons hA
  obtain ⟨rfl, rfl, rfl⟩ := trodAll_nil r0
  obtain rfl : args = #[v0] := by cases args; simp_all
  obtain ⟨rfl, rfl⟩ := trodVars_none hV
  have hv0 := hval 0 _ v0 rfl rfl
  clear hA0 hval
  have main : Calls Try.prog 4 #[v0] W fun e W' => e = .returned (.bool true) ∧ Chg N0 W W' := by
    have g0 := slice_arg Try.underlying54 hv0 h0
    obtain ⟨s, hs, hat, hq⟩ := rdb_slice (ec := Ops.c) (sz := 68) (Q := fun x => SlAt W.heap.size W Id.c 32 x.b.tx) Try.underlying54 (by kernel_rfl) (by omega) (fun c _ hc => rdb_ops hc) g0
    obtain rfl : v0 = s.v := by simpa using hs
    exact seenDoes_any ⟨hat, fun x hx => hq x hx⟩ (Nat.le_refl _)
  refine main.mono fun e W' ⟨he, hc⟩ => ?_
  subst he
  exact ⟨_, rfl, law_post (kids_rows (by kernel_rfl) (by kernel_rfl)) (slices_full_of _ (by kernel_rfl)) (of_decide_eq_true (by kernel_rfl)) rfl Try.underlying4 rfl rfl hW' hc⟩
theorem lifted (os : Os) (started : os.Started) (H : Type) (enc : TypeId × Value → H) :
    ReturnsInHanded {} Try.checked os 4 .any (Rows.seenDoesSpec.pre6 enc Try.prog Try.f4 Rows.seenDoesRow.domain false) (Rows.seenDoesSpec.post enc Try.prog Try.f4 false true false false) := by
  refine returnsInHanded_of_change (C := Try.checked) own started (by kernel_rfl) Try.func4
    (ChangeSpec.witness6 (enc := enc) (C := Try.checked) false ⟨#[], #[.slice none 0 0], []⟩ 8 (by kernel_rfl) (by kernel_rfl) (by kernel_rfl) (by kernel_rfl)) ?_
  intro W base args ds gs before hval hW _ _
  exact contract H enc W base args ds gs before hval hW
theorem over : Rows.seenDoesRow.holds Try.pinned (OpenSpec.ofChange Rows.seenDoesSpec) :=
  OpenClaim.holds_of_wide 4 Try.f4 rfl rfl rfl rfl rfl rfl rfl ⟨rfl, rfl, rfl, rfl, rfl⟩ rfl rfl rfl rfl rfl (by kernel_rfl) Try.func4 (by kernel_rfl)
    (of_decide_eq_true (by kernel_rfl)) (by unfold Func.isWrapper; first | (rw [if_pos (by decide +kernel)]; kernel_rfl) | (rw [if_neg (by decide +kernel)]; exact ⟨rfl, rfl⟩))
    (fun os started H enc _ => lifted os started H enc)
theorem proved : Rows.SeenDoesSaid :=
  over
end Go.Proofs.Ytdncnepedkkamaa.seenDoes
namespace Go.Proofs.Ytdncnepedkkamaa
set_option linter.unusedSimpArgs false
set_option linter.unusedVariables false
theorem seenDoes_holds : Rows.SeenDoesSaid := seenDoes.proved
end Go.Proofs.Ytdncnepedkkamaa
