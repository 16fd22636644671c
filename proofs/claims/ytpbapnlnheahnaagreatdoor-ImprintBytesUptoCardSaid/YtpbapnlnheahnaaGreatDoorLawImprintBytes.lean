/- The law ImprintBytes (arguments of bounded bulk): for every input the call returns true, and the input reads as it did. No condition. -/
import Derived.Test.YtpbapnlnheahnaaGreatDoorMImprintBytes1
import Derived.Test.YtpbapnlnheahnaaGreatDoorCards
import Derived.Test.YtpbapnlnheahnaaGreatDoorTie
import Derived.SevenTiedAt
import Derived.Stop.Joined
import Derived.Deep.DeepHandedRow
import Derived.Test.YtpbapnlnheahnaaGreatDoorMImprintBytes7
import Derived.Test.YtpbapnlnheahnaaGreatDoorMImprintBytessImpBytes
namespace Go.Proofs.YtpbapnlnheahnaaGreatDoor.imprintBytes
open Go.ChangeShapes Go.WideShapes Go.ChangeAt Go.RowKit
set_option maxRecDepth 100000
set_option maxHeartbeats 2000000
theorem own:ownKnob Tryz.prog.godebug=none:=by kernel_rfl
theorem contract (H:Type) (enc:TypeId×Value→H) (W:World) (base:Nat) (args:Array Value) (ds gs:List (DataW H)) (before:List MemPlace)
  (hval:∀(j:Nat) t v,Tryz.f3.params[j]? =some t→args[j]? =some v→Value.okWide Tryz.prog W .any base t v)
  (hW:DataW.Whole enc Tryz.prog Tryz.f3.params.toList Rows.imprintBytesSpec.vars false W args.toList ds gs before) (hk:Rows.uptoSmall H (ds++gs)=true):
  Calls Tryz.prog 3 args W fun e W'=>∃v,e= .returned v∧Rows.imprintBytesSpec.post enc Tryz.prog Tryz.f3 false true false false W args v W':=by
 have hW':=hW
 obtain ⟨p,q,hA0,hV,rfl,hfz,hnd⟩:=hW
 have hA:DataW.TrodAll enc Tryz.prog W 0 (fun _=>true) true Tryz.f3.params.toList args.toList ds p:=hA0
 rw [Tryz.params3] at hA hval
 obtain ⟨v0,vs0,d0,ds0,p0,q0,hargs,rfl,rfl,h0,r0⟩:=trodAll_cons hA
 obtain ⟨rfl,rfl,rfl⟩:=trodAll_nil r0
 obtain rfl:args= #[v0]:=by cases args;simp_all
 obtain ⟨rfl,rfl⟩:=trodVars_none hV
 have hv0:=hval 0 _ v0 rfl rfl
 clear hA0 hval
 have main:Calls Tryz.prog 3 #[v0] W fun e W'=>e= .returned (.bool true)∧Chg N0 W W':=by
  obtain ⟨cs0,rfl,g0⟩:=agg_arg (by kernel_rfl) hv0 h0
  have hb:Rows.uptoBulk d0≤1048576:=by
   have h1:=of_decide_eq_true hk
   simp only [List.cons_append,Rows.uptoBulkAll] at h1
   omega
  obtain ⟨x,hx,hs,hB,_,hlv⟩:=rdbU_sta (rdbU_of h0 hb)
  have hx:cs0=x.c:=hx
  subst hx
  exact impBytes_any hs hB (Nat.le_refl _) hlv
 refine main.mono fun e W' ⟨he,hc⟩=>?_
 subst he
 exact ⟨_,rfl,law_post (kids_rows (by kernel_rfl) (by kernel_rfl)) (slices_full_of _ (by kernel_rfl)) (of_decide_eq_true (by kernel_rfl)) rfl Tryz.underlying4 rfl rfl hW' hc⟩
abbrev laids : List (String × DataW Unit) := [("errors.errorType", Rows.laid_errors_errorType)]
noncomputable def laidWorld (os:Os):World:=
 let w0:=World.holding Tryz.prog os ⟨#[], #[], []⟩
 {w0 with heap:=w0.heap.modify 0 fun
   | .cells _ t frozen=>.cells #[.iface 274 (.agg #[.pointer (some ⟨1,119,none⟩)])] t frozen
   |o=>o}
theorem laidWorld_met (os:Os) (args:Array Value):laidMetH Tryz.prog laids ((laidWorld os).forCall (fun _ _=>0) ⟨#[],args, []⟩).memory:=
 laidMetH_of_parts (laidMet_nil _ _) (by kernel_rfl)
theorem lifted (os:Os) (started:os.Started) (H:Type) (enc:TypeId×Value→H) (F:Stop.Interp):
  ReturnsInHanded {} Tryz.checked os 3 .any ((Rows.OpenSpec.upto Rows.imprintBytesSpec).preRow enc Tryz.prog Tryz.f3 Rows.imprintBytesUptoRow.domain false laids) (((Rows.OpenSpec.upto Rows.imprintBytesSpec).at F).post enc Tryz.prog Tryz.f3 false true false false):=by
 refine returnsInHanded_of_row (C:=Tryz.checked) (s:=Rows.OpenSpec.upto Rows.imprintBytesSpec) own started (by kernel_rfl) Tryz.func3
  (witness_row_at (enc:=enc) (C:=Tryz.checked) false (laidWorld os) #[(Sta.mk ⟨0,0,0,0,0,0⟩ 0 0 0 Sl.nil Sl.nil Sl.nil Sl.nil).v] rfl (by kernel_rfl) (by kernel_rfl) (by kernel_rfl)
   ⟨⟨(OpenSpec.pre_some (k:=Rows.uptoSmall) rfl _ _ _ _).2 ⟨[.agg [.agg [.lit (.int .i64 0), .lit (.int .i64 0), .lit (.int .i64 0), .lit (.int .i64 0), .lit (.int .i64 0), .lit (.int .i64 0)], .lit (.int .u32 0), .lit (.int .i64 0), .lit (.int .u32 0), .nil, .nil, .nil, .nil]], [], [],DataW.Whole_of_whole (fuel:=8) (x:=([.agg [.agg [.lit (.int .i64 0), .lit (.int .i64 0), .lit (.int .i64 0), .lit (.int .i64 0), .lit (.int .i64 0), .lit (.int .i64 0)], .lit (.int .u32 0), .lit (.int .i64 0), .lit (.int .u32 0), .nil, .nil, .nil, .nil]], [], [])) (by kernel_rfl),by kernel_rfl,by kernel_rfl⟩,laidWorld_met os _⟩,sizedMet_of_sizedB (fuel:=8) (by kernel_rfl)⟩) ?_
 intro W base args ds gs before hval hW _ hcond _ _ _ _
 exact contract H enc W base args ds gs before hval hW (hcond _ rfl)
theorem closed:joinedFacts Tryz.prog 3 Tryz.f3 (Rows.OpenSpec.upto Rows.imprintBytesSpec).bare Rows.imprintBytesUptoRow=true:=by
 unfold joinedFacts
 simp only [Bool.and_eq_true]
 repeat' apply And.intro
 all_goals as_aux_lemma=>kernel_rfl
theorem over:Rows.imprintBytesUptoRow.holds Tryz.pinned (Rows.OpenSpec.upto Rows.imprintBytesSpec):=
 OpenClaim.holds_of_cond 3 Tryz.f3 rfl rfl rfl rfl rfl rfl rfl ⟨rfl,rfl,rfl,rfl,rfl⟩ rfl rfl rfl rfl rfl (by kernel_rfl) Tryz.func3 closed
  (of_decide_eq_true (by kernel_rfl)) (by unfold Func.isWrapper;first|(rw [if_pos (by decide+kernel)];kernel_rfl)|(rw [if_neg (by decide+kernel)];exact ⟨rfl,rfl⟩))
  (fun os started H enc _ F=>by rw [OpenClaim.pre_eq_preRow];exact lifted os started H enc F)
theorem proved:Rows.ImprintBytesUptoCardSaid:=
 Claim7.holds_tied_plain_at .later [] [.handle] true (true, "bb31726d3cbeeb8aec21b53424cc5a72f1b8507420efcac07580dcfe8fae32da") true
  over (fun _ h=>by cases h) (by kernel_rfl) (fun _ h=>by cases h) imprintBytesUpto_row_tie rfl ⟨rfl,rfl⟩ (by kernel_rfl) rfl
  (fun f fn hf hfn=>by
   obtain rfl : f = 3 := Option.some.inj ((show Tryz.prog.funcNamed "mirador/miradorlaw32.ImprintBytes" = some 3 by kernel_rfl).symm.trans hf) |>.symm
   obtain rfl:fn=Tryz.f3:=(Option.some.inj (Tryz.func3.symm.trans hfn)).symm
   exact ⟨by kernel_rfl,fun j t ht=>by
     rw [Tryz.params3] at ht
     rcases j with _|j
     ·obtain rfl:t=31:=by simpa using ht.symm
      exact (show Tryz.prog.wantsStandIn 31=false by kernel_rfl)
     simp at ht⟩)
  (by kernel_rfl)
end Go.Proofs.YtpbapnlnheahnaaGreatDoor.imprintBytes
namespace Go.Proofs.YtpbapnlnheahnaaGreatDoor
theorem imprintBytes_holds:Rows.ImprintBytesUptoCardSaid:=imprintBytes.proved
end Go.Proofs.YtpbapnlnheahnaaGreatDoor
