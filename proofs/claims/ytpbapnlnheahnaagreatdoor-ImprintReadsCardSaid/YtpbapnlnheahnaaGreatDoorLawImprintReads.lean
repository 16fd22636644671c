/- The law ImprintReads: for every input the call returns true, and the input reads as it did. No condition. -/
import Derived.Test.YtpbapnlnheahnaaGreatDoorMImprintReads1
import Derived.Test.YtpbapnlnheahnaaGreatDoorCards
import Derived.Test.YtpbapnlnheahnaaGreatDoorTie
import Derived.SevenTiedAt
import Derived.Stop.Joined
import Derived.Test.YtpbapnlnheahnaaGreatDoorMImprintReads6
import Derived.Test.YtpbapnlnheahnaaGreatDoorMImprintReads38
namespace Go.Proofs.YtpbapnlnheahnaaGreatDoor.imprintReads
open Go.ChangeShapes Go.WideShapes Go.ChangeAt Go.RowKit
set_option maxRecDepth 100000
set_option maxHeartbeats 2000000
theorem own:ownKnob Tryz.prog.godebug=none:=by kernel_rfl
theorem contract (H:Type) (enc:TypeId×Value→H) (W:World) (base:Nat) (args:Array Value) (ds gs:List (DataW H)) (before:List MemPlace)
  (hval:∀(j:Nat) t v,Tryz.f4.params[j]? =some t→args[j]? =some v→Value.okWide Tryz.prog W .any base t v)
  (hW:DataW.Whole enc Tryz.prog Tryz.f4.params.toList Rows.imprintReadsSpec.vars false W args.toList ds gs before):
  Calls Tryz.prog 4 args W fun e W'=>∃v,e= .returned v∧Rows.imprintReadsSpec.post enc Tryz.prog Tryz.f4 false true false false W args v W':=by
 have hW':=hW
 obtain ⟨p,q,hA0,hV,rfl,hfz,hnd⟩:=hW
 have hA:DataW.TrodAll enc Tryz.prog W 0 (fun _=>true) true Tryz.f4.params.toList args.toList ds p:=hA0
 rw [Tryz.params4] at hA hval
 obtain ⟨v0,vs0,d0,ds0,p0,q0,hargs,rfl,rfl,h0,r0⟩:=trodAll_cons hA
 obtain ⟨rfl,rfl,rfl⟩:=trodAll_nil r0
 obtain rfl:args= #[v0]:=by cases args;simp_all
 obtain ⟨rfl,rfl⟩:=trodVars_none hV
 have hv0:=hval 0 _ v0 rfl rfl
 clear hA0 hval
 have main:Calls Tryz.prog 4 #[v0] W fun e W'=>e= .returned (.bool true)∧Chg N0 W W':=by
  have g0:=slice_arg Tryz.underlying34 hv0 h0
  obtain ⟨s,hs,hb⟩:=rdb_bytes g0
  obtain rfl:v0=s.v:=by simpa using hs
  exact impReads_any hb
 refine main.mono fun e W' ⟨he,hc⟩=>?_
 subst he
 exact ⟨_,rfl,law_post (kids_rows (by kernel_rfl) (by kernel_rfl)) (slices_full_of _ (by kernel_rfl)) (of_decide_eq_true (by kernel_rfl)) rfl Tryz.underlying4 rfl rfl hW' hc⟩
abbrev laids : List (String × DataW Unit) := [("errors.errorType", Rows.laid_errors_errorType)]
noncomputable def laidWorld (os:Os):World:=
 let w0:=World.holding Tryz.prog os ⟨#[], #[], []⟩
 {w0 with heap:=w0.heap.modify 0 fun
   | .cells _ t frozen=>.cells #[.iface 274 (.agg #[.pointer (some ⟨1,119,none⟩)])] t frozen
   |o=>o}
theorem laidWorld_met (os:Os) (args:Array Value):laidMetH Tryz.prog laids ((laidWorld os).forCall (fun _ _=>0) ⟨#[],args, []⟩).memory:=
 laidMetH_of_parts (laidMet_nil _ _) (by kernel_rfl)
theorem lifted (os:Os) (started:os.Started) (H:Type) (enc:TypeId×Value→H):
  ReturnsInHanded {} Tryz.checked os 4 .any (fun w args=>(Rows.imprintReadsSpec.pre enc Tryz.prog Tryz.f4 Rows.imprintReadsRow.domain false w args∧laidMetH Tryz.prog laids w)∧sizedMet enc Tryz.prog Tryz.f4 (OpenSpec.ofChange Rows.imprintReadsSpec) false w args)
   (Rows.imprintReadsSpec.post enc Tryz.prog Tryz.f4 false true false false):=by
 refine returnsInHanded_of_change_and (C:=Tryz.checked) (X:=fun w _=>laidMetH Tryz.prog laids w) (fun _ _ _ hh h=>h.of_heap hh) own started (by kernel_rfl) Tryz.func4
  (ChangeSpec.witness_at (enc:=enc) (C:=Tryz.checked) (os:=os) (X:=fun w _=>laidMetH Tryz.prog laids w) false (laidWorld os) #[.slice none 0 0] 8 rfl (by kernel_rfl) (by kernel_rfl) (by kernel_rfl) (by kernel_rfl) (by kernel_rfl) (laidWorld_met os _)) ?_
 intro W base args ds gs before hval hW _ _ _ _
 exact contract H enc W base args ds gs before hval hW
theorem closed:joinedFacts Tryz.prog 4 Tryz.f4 Rows.imprintReadsSpec Rows.imprintReadsRow=true:=by
 unfold joinedFacts
 simp only [Bool.and_eq_true]
 repeat' apply And.intro
 all_goals as_aux_lemma=>kernel_rfl
theorem over:Rows.imprintReadsRow.holds Tryz.pinned (OpenSpec.ofChange Rows.imprintReadsSpec):=
 OpenClaim.holds_of_wide 4 Tryz.f4 rfl rfl rfl rfl rfl rfl rfl ⟨rfl,rfl,rfl,rfl,rfl⟩ rfl rfl rfl rfl rfl (by kernel_rfl) Tryz.func4 closed
  (of_decide_eq_true (by kernel_rfl)) (by unfold Func.isWrapper;first|(rw [if_pos (by decide+kernel)];kernel_rfl)|(rw [if_neg (by decide+kernel)];exact ⟨rfl,rfl⟩))
  (fun os started H enc _=>lifted os started H enc)
theorem proved:Rows.ImprintReadsCardSaid:=
 Claim7.holds_tied_plain_at .later [] [.handle] true (true, "bb31726d3cbeeb8aec21b53424cc5a72f1b8507420efcac07580dcfe8fae32da") true
  over (fun _ h=>by cases h) (by kernel_rfl) (fun _ h=>by cases h) imprintReads_row_tie rfl ⟨rfl,rfl⟩ (by kernel_rfl) rfl
  (fun f fn hf hfn=>by
   obtain rfl : f = 4 := Option.some.inj ((show Tryz.prog.funcNamed "mirador/miradorlaw32.ImprintReads" = some 4 by kernel_rfl).symm.trans hf) |>.symm
   obtain rfl:fn=Tryz.f4:=(Option.some.inj (Tryz.func4.symm.trans hfn)).symm
   exact ⟨by kernel_rfl,fun j t ht=>by
     rw [Tryz.params4] at ht
     rcases j with _|j
     ·obtain rfl:t=34:=by simpa using ht.symm
      exact (show Tryz.prog.wantsStandIn 34=false by kernel_rfl)
     simp at ht⟩)
  (by kernel_rfl)
end Go.Proofs.YtpbapnlnheahnaaGreatDoor.imprintReads
namespace Go.Proofs.YtpbapnlnheahnaaGreatDoor
theorem imprintReads_holds:Rows.ImprintReadsCardSaid:=imprintReads.proved
end Go.Proofs.YtpbapnlnheahnaaGreatDoor
