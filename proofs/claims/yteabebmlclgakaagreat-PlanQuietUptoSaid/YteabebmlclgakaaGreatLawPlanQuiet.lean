/- The law PlanQuiet (arguments of bounded bulk): for every input the call returns true, and the input reads as it did. No condition. -/
import Derived.Test.YteabebmlclgakaaGreatMPlanQuiet1
import Derived.Test.YteabebmlclgakaaGreatMPlanQuiet7
import Derived.Test.YteabebmlclgakaaGreatMPlanQuiet32
namespace Go.Proofs.YteabebmlclgakaaGreat.planQuiet
open Go.ChangeShapes Go.WideShapes Go.ChangeAt Go.RowKit
set_option maxRecDepth 100000
set_option maxHeartbeats 2000000
theorem own:ownKnob Tryz.prog.godebug=none:=by kernel_rfl
theorem contract (H:Type) (enc:TypeId×Value→H) (W:World) (base:Nat) (args:Array Value) (ds gs:List (DataW H)) (before:List MemPlace)
  (hval:∀(j:Nat) t v,Tryz.f8.params[j]? =some t→args[j]? =some v→Value.okWide Tryz.prog W .any base t v)
  (hW:DataW.Whole enc Tryz.prog Tryz.f8.params.toList Rows.planQuietSpec.vars false W args.toList ds gs before) (hk:Rows.uptoSmall H (ds++gs)=true):
  Calls Tryz.prog 8 args W fun e W'=>∃v,e= .returned v∧Rows.planQuietSpec.post enc Tryz.prog Tryz.f8 false true false false W args v W':=by
 have hW':=hW
 obtain ⟨p,q,hA0,hV,rfl,hfz,hnd⟩:=hW
 have hA:DataW.TrodAll enc Tryz.prog W 0 (fun _=>true) true Tryz.f8.params.toList args.toList ds p:=hA0
 rw [Tryz.params8] at hA hval
 obtain ⟨v0,vs0,d0,ds0,p0,q0,hargs,rfl,rfl,h0,r0⟩:=trodAll_cons hA
 obtain ⟨v1,vs1,d1,ds1,p1,q1,rfl,rfl,rfl,h1,r1⟩:=trodAll_cons r0
 obtain ⟨v2,vs2,d2,ds2,p2,q2,rfl,rfl,rfl,h2,r2⟩:=trodAll_cons r1
 obtain ⟨rfl,rfl,rfl⟩:=trodAll_nil r2
 obtain rfl:args= #[v0,v1,v2]:=by cases args;simp_all
 obtain ⟨rfl,rfl⟩:=trodVars_none hV
 have hv0:=hval 0 _ v0 rfl rfl
 have hv1:=hval 1 _ v1 rfl rfl
 have hv2:=hval 2 _ v2 rfl rfl
 clear hA0 hval
 have main:Calls Tryz.prog 8 #[v0,v1,v2] W fun e W'=>e= .returned (.bool true)∧Chg N0 W W':=by
  obtain ⟨cs0,rfl,g0⟩:=agg_arg (by kernel_rfl) hv0 h0
  have hb:Rows.uptoBulk d0≤1048576:=by
   have h1:=of_decide_eq_true hk
   simp only [List.cons_append,Rows.uptoBulkAll] at h1
   omega
  obtain ⟨x,hx,hs,hB,hcf,hlv⟩:=rdbU_sta (rdbU_of h0 hb)
  have hx:cs0=x.c:=hx
  subst hx
  obtain ⟨a1,rfl,rfl,rfl,w1⟩:=open_int Tryz.underlying5 hv1 h1
  obtain ⟨a2,rfl,rfl,rfl,w2⟩:=open_int Tryz.underlying5 hv2 h2
  obtain ⟨n1,rfl,k1⟩:=lit_u8 w1
  obtain ⟨n2,rfl,k2⟩:=lit_u8 w2
  obtain ⟨x1,rfl⟩:∃x:UInt8,n1=x.toNat:=⟨UInt8.ofNat n1,by rw [UInt8.toNat_ofNat',Nat.mod_eq_of_lt k1]⟩
  obtain ⟨x2,rfl⟩:∃x:UInt8,n2=x.toNat:=⟨UInt8.ofNat n2,by rw [UInt8.toNat_ofNat',Nat.mod_eq_of_lt k2]⟩
  exact planQuiet_any hs hB (Nat.le_refl _) hlv (hcf x.cfg.stp (by simp)) x1 x2
 refine main.mono fun e W' ⟨he,hc⟩=>?_
 subst he
 exact ⟨_,rfl,law_post (kids_rows (by kernel_rfl) (by kernel_rfl)) (slices_full_of _ (by kernel_rfl)) (of_decide_eq_true (by kernel_rfl)) rfl Tryz.underlying4 rfl rfl hW' hc⟩
theorem lifted (os:Os) (started:os.Started) (H:Type) (enc:TypeId×Value→H) (F:Stop.Interp):
  ReturnsInHanded {} Tryz.checked os 8 .any ((Rows.OpenSpec.upto Rows.planQuietSpec).pre6 enc Tryz.prog Tryz.f8 Rows.planQuietUptoRow.domain false) (((Rows.OpenSpec.upto Rows.planQuietSpec).at F).post enc Tryz.prog Tryz.f8 false true false false):=by
 refine returnsInHanded_of_cond (C:=Tryz.checked) (s:=Rows.OpenSpec.upto Rows.planQuietSpec) (k:=Rows.uptoSmall) rfl own started (by kernel_rfl) Tryz.func8
  (OpenSpec.witness (enc:=enc) (C:=Tryz.checked) (s:=Rows.OpenSpec.upto Rows.planQuietSpec) (k:=Rows.uptoSmall) rfl false ⟨#[], #[(Sta.mk ⟨0,0,0,0,0,0⟩ 0 0 0 Sl.nil Sl.nil Sl.nil Sl.nil).v, .int .u8 0, .int .u8 0], []⟩ 8 (by kernel_rfl) (by kernel_rfl) (by kernel_rfl)
   (x:=([.agg [.agg [.lit (.int .i64 0), .lit (.int .i64 0), .lit (.int .i64 0), .lit (.int .i64 0), .lit (.int .i64 0), .lit (.int .i64 0)], .lit (.int .u32 0), .lit (.int .i64 0), .lit (.int .u32 0), .nil, .nil, .nil, .nil], .lit (.int .u8 0), .lit (.int .u8 0)], [], [])) (by kernel_rfl) rfl (by kernel_rfl)) ?_
 intro W base args ds gs before hval hW _ hk _
 exact contract H enc W base args ds gs before hval hW hk
theorem closed:joinedFacts Tryz.prog 8 Tryz.f8 (Rows.OpenSpec.upto Rows.planQuietSpec).bare Rows.planQuietUptoRow=true:=by
 unfold joinedFacts
 simp only [Bool.and_eq_true]
 repeat' apply And.intro
 all_goals as_aux_lemma=>kernel_rfl
theorem over:Rows.planQuietUptoRow.holds Tryz.pinned (Rows.OpenSpec.upto Rows.planQuietSpec):=
 OpenClaim.holds_of_cond 8 Tryz.f8 rfl rfl rfl rfl rfl rfl rfl ⟨rfl,rfl,rfl,rfl,rfl⟩ rfl rfl rfl rfl rfl (by kernel_rfl) Tryz.func8 closed
  (of_decide_eq_true (by kernel_rfl)) (by unfold Func.isWrapper;first|(rw [if_pos (by decide+kernel)];kernel_rfl)|(rw [if_neg (by decide+kernel)];exact ⟨rfl,rfl⟩))
  (fun os started H enc _ F=>lifted os started H enc F)
theorem proved:Rows.PlanQuietUptoSaid:=
 over
end Go.Proofs.YteabebmlclgakaaGreat.planQuiet
namespace Go.Proofs.YteabebmlclgakaaGreat
theorem planQuiet_holds:Rows.PlanQuietUptoSaid:=planQuiet.proved
end Go.Proofs.YteabebmlclgakaaGreat
