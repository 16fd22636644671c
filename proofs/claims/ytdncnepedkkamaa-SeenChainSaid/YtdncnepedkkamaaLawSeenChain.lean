/- The law SeenChain: for every input the call returns true, and the input reads as it did. No condition. -/
import Derived.Test.YtdncnepedkkamaaMSeenChain1
import Derived.Test.YtdncnepedkkamaaMSeenChain7
import Derived.Test.YtdncnepedkkamaaMSeenChainsSeenChain
namespace Go.Proofs.Ytdncnepedkkamaa.seenChain
open Go.ChangeShapes Go.WideShapes Go.ChangeAt Go.RowKit
set_option maxRecDepth 100000
set_option maxHeartbeats 2000000
set_option linter.unusedVariables false
theorem own : ownKnob Try.prog.godebug = none := by kernel_rfl
theorem contract (H : Type) (enc : TypeId × Value → H) (W : World) (base : Nat) (args : Array Value) (ds gs : List (DataW H)) (before : List MemPlace)
    (hval : ∀ (j : Nat) t v, Try.f5.params[j]? = some t → args[j]? = some v → Value.okWide Try.prog W .any base t v)
    (hW : DataW.Whole enc Try.prog Try.f5.params.toList Rows.seenChainSpec.vars false W args.toList ds gs before) :
    Calls Try.prog 5 args W fun e W' => ∃ v, e = .returned v ∧ Rows.seenChainSpec.post enc Try.prog Try.f5 false true false false W args v W' := by
  have hW' := hW
  obtain ⟨p, q, hA0, hV, rfl, hfz, hnd⟩ := hW
  have hA : DataW.TrodAll enc Try.prog W 0 (fun _ => true) true Try.f5.params.toList args.toList ds p := hA0
  rw [Try.params5] at hA hval
  obtain ⟨v0, vs0, d0, ds0, p0, q0, hargs, rfl, rfl, h0, r0⟩ := trodAll_cons hA
  obtain ⟨v1, vs1, d1, ds1, p1, q1, rfl, rfl, rfl, h1, r1⟩ := trodAll_cons r0
  obtain ⟨v2, vs2, d2, ds2, p2, q2, rfl, rfl, rfl, h2, r2⟩ := trodAll_cons r1
  obtain ⟨rfl, rfl, rfl⟩ := trodAll_nil r2
  obtain rfl : args = #[v0, v1, v2] := by cases args; simp_all
  obtain ⟨rfl, rfl⟩ := trodVars_none hV
  have hv0 := hval 0 _ v0 rfl rfl
  have hv1 := hval 1 _ v1 rfl rfl
  have hv2 := hval 2 _ v2 rfl rfl
  clear hA0 hval
  have main : Calls Try.prog 5 #[v0, v1, v2] W fun e W' => e = .returned (.bool true) ∧ Chg N0 W W' := by
    obtain ⟨a0, rfl, rfl, rfl, w00⟩ := open_int Try.underlying5 hv0 h0
    obtain ⟨n, rfl, hn⟩ := lit_u8 w00
    obtain ⟨d, rfl⟩ : ∃ d : UInt8, n = d.toNat := ⟨UInt8.ofNat n, by rw [UInt8.toNat_ofNat_of_lt' (by show n < 256; omega)]⟩
    have g1 := slice_arg Try.underlying58 hv1 h1
    obtain ⟨s, hs, hat, hq⟩ := rdb_slice (ec := Blk.c) (sz := 65) (Q := fun x => SlAt W.heap.size W Id.c 32 x.tx) Try.underlying58 (by kernel_rfl) (by omega) (fun c _ hc => rdb_blk hc) g1
    obtain rfl : v1 = s.v := by simpa using hs
    have g2 := slice_arg Try.underlying74 hv2 h2
    obtain ⟨bk, hbs, hbat, _⟩ := rdb_slice (ec := boL) (sz := 1) (Q := fun _ => True) Try.underlying74 (by kernel_rfl) (by omega) (fun c _ hc => by obtain ⟨q, hq⟩ := rdb_bool Try.underlying4 hc; exact ⟨q, hq, trivial⟩) g2
    obtain rfl : v2 = bk.v := by simpa using hbs
    exact seenChain_any d ⟨hat, fun x hx => hq x hx⟩ hbat (Nat.le_refl _)
  refine main.mono fun e W' ⟨he, hc⟩ => ?_
  subst he
  exact ⟨_, rfl, law_post (kids_rows (by kernel_rfl) (by kernel_rfl)) (slices_full_of _ (by kernel_rfl)) (of_decide_eq_true (by kernel_rfl)) rfl Try.underlying4 rfl rfl hW' hc⟩
theorem lifted (os : Os) (started : os.Started) (H : Type) (enc : TypeId × Value → H) :
    ReturnsInHanded {} Try.checked os 5 .any (Rows.seenChainSpec.pre6 enc Try.prog Try.f5 Rows.seenChainRow.domain false) (Rows.seenChainSpec.post enc Try.prog Try.f5 false true false false) := by
  refine returnsInHanded_of_change (C := Try.checked) own started (by kernel_rfl) Try.func5
    (ChangeSpec.witness6 (enc := enc) (C := Try.checked) false ⟨#[], #[.int .u8 0, .slice none 0 0, .slice none 0 0], []⟩ 8 (by kernel_rfl) (by kernel_rfl) (by kernel_rfl) (by kernel_rfl)) ?_
  intro W base args ds gs before hval hW _ _
  exact contract H enc W base args ds gs before hval hW
theorem over : Rows.seenChainRow.holds Try.pinned (OpenSpec.ofChange Rows.seenChainSpec) :=
  OpenClaim.holds_of_wide 5 Try.f5 rfl rfl rfl rfl rfl rfl rfl ⟨rfl, rfl, rfl, rfl, rfl⟩ rfl rfl rfl rfl rfl (by kernel_rfl) Try.func5 (by kernel_rfl)
    (of_decide_eq_true (by kernel_rfl)) (by unfold Func.isWrapper; first | (rw [if_pos (by decide +kernel)]; kernel_rfl) | (rw [if_neg (by decide +kernel)]; exact ⟨rfl, rfl⟩))
    (fun os started H enc _ => lifted os started H enc)
theorem proved : Rows.SeenChainSaid :=
  over
end Go.Proofs.Ytdncnepedkkamaa.seenChain
namespace Go.Proofs.Ytdncnepedkkamaa
set_option linter.unusedSimpArgs false
set_option linter.unusedVariables false
theorem seenChain_holds : Rows.SeenChainSaid := seenChain.proved
end Go.Proofs.Ytdncnepedkkamaa
