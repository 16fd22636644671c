/- MPlanTells34: Plan6, Plan7. -/
import Derived.Test.YteabebmlclgakaaGreatMPlanTells30
import Derived.Test.YteabebmlclgakaaGreatMPlanTells7
import Derived.Test.YteabebmlclgakaaGreatMPlanTells33
set_option linter.unusedSimpArgs false
set_option linter.unusedVariables false
/- Plan6: the example of plans. No condition. -/
namespace Go.Proofs.YteabebmlclgakaaGreat
open Go.RowKit
set_option maxRecDepth 100000
set_option maxHeartbeats 4000000
abbrev oneT (b1 b2:Nat):List Tier:= [⟨3,⟨some ⟨b1,0,none⟩,1, [1]⟩⟩,⟨5,⟨some ⟨b2,0,none⟩,1, [2]⟩⟩]
abbrev oneJ (b1 b2 b3:Nat):Job:=⟨⟨0,0⟩,Id.z,4,0, -1,⟨some ⟨b3,0,none⟩,2,oneT b1 b2⟩⟩
abbrev oneX (b1 b2 b3 b4:Nat):Sta:=⟨⟨1,2,1,1,1,1⟩,4,0,0,Sl.nil,Sl.nil,Sl.nil,⟨some ⟨b4,0,none⟩,1, [oneJ b1 b2 b3]⟩⟩
abbrev oneRs (b1 b2 b3 b4:Nat):List Res:= [rowR 49 38 Job.c ⟨some ⟨b4,0,none⟩,1, [oneJ b1 b2 b3]⟩,rowR 51 2 Tier.c ⟨some ⟨b3,0,none⟩,2,oneT b1 b2⟩,rowR 5 1 u8L ⟨some ⟨b2,0,none⟩,1, [2]⟩,rowR 5 1 u8L ⟨some ⟨b1,0,none⟩,1, [1]⟩]
theorem one_any (w0:World):Calls Tryz.prog 89 #[] w0 fun e w'=>∃b1 b2 b3 b4,e= .returned (oneX b1 b2 b3 b4).v∧Made (star (oneRs b1 b2 b3 b4)) w0 w':=by
 have hp:=Hp.start (S:=N0) w0
 refine calls_x (args:= []) tabOk Tryz.func89 Tryz.ntmps89 Tryz.results89 rfl (Nat.le_of_ble_eq_true rfl) ?_
 ((conv=>whnf);repeat' ((first|((with_reducible refine cn_id ?_);(refine cn rfl ?_))|((with_reducible refine ldn_id ?_);(apply lda_hs hp;(focus repeat' constructor);exact rfl))|((with_reducible refine al_id ?_);(refine al_cel hp ?_;clear hp;intro bb w hp))|((with_reducible refine st_id ?_);(apply sta_hs hp;(focus repeat' constructor);exact rfl;exact rfl;clear hp;intro w hp;(try dsimp only [List.set] at hp)))|((with_reducible refine gen_id ?_);first|((refine gen_bs rfl hp el_u8 u8L [1] [.int .u8 1] rfl rfl rfl (fun _ _=>rfl) (by omega) ?_);clear hp;intro b1 w hp)|((refine gen_bs rfl hp el_u8 u8L [2] [.int .u8 2] rfl rfl rfl (fun _ _=>rfl) (by omega) ?_);clear hp;intro b2 w hp)|((refine gen_bs rfl hp el_tier Tier.c (oneT b1 b2) ((oneT b1 b2).map Tier.v) rfl rfl rfl (fun _ h=>by simp at h;rcases h with h|h<;>subst h<;>rfl) (by omega) ?_);clear hp;intro b3 w hp)|((refine gen_build (t:=49) (out:=(oneJ b1 b2 b3).c) rfl (by kernel_rfl) ?_))|((refine gen_bs rfl hp el_job Job.c [oneJ b1 b2 b3] [Job.v (oneJ b1 b2 b3)] rfl rfl rfl (fun _ h=>by simp at h;subst h;rfl) (by omega) ?_);clear hp;intro b4 w hp)|((refine gen_build (t:=31) (out:=(oneX b1 b2 b3 b4).c) rfl (by kernel_rfl) ?_))|(apply gen_build;exact rfl;exact rfl)))<;>(conv=>whnf)))
 exact ps_val (v':=(oneX b1 b2 b3 b4).v) rfl ⟨b1,b2,b3,b4,rfl,(hp.pick (rs':=oneRs b1 b2 b3 b4) [0,2,3,4] (by decide) rfl).made (.refl _)⟩
theorem oneX_at {b1 b2 b3 b4:Nat} {w:World} (h:(star (oneRs b1 b2 b3 b4)).ok w):StaAt w.heap.size w (oneX b1 b2 b3 b4):=by
 have hp:=Hp.open h
 refine ⟨.none_,fun _ h=>(by cases h), .none_,⟨.none_,fun _ h=>(by cases h)⟩,hp.row (j:=0) rfl,fun j hj=>?_⟩
 obtain rfl:=List.mem_singleton.1 hj
 refine ⟨hp.row (j:=1) rfl,fun t ht=>?_⟩
 rcases List.mem_cons.1 ht with rfl|ht
 ·exact hp.row (j:=3) rfl
 ·obtain rfl:=List.mem_singleton.1 ht
  exact hp.row (j:=2) rfl
section
variable {b1 b2 b3 b4 : Nat}
theorem one_ok:okX (oneX b1 b2 b3 b4)=true:=by rfl
abbrev oneS:List StpP:= [⟨⟨⟨0,0⟩,Id.z,5,0, [1]⟩,0,3⟩,⟨⟨⟨0,0⟩,Id.z,6,1, [2]⟩,0,5⟩]
abbrev oneP:JobP:=⟨⟨0,0⟩,Id.z,4,0, -1, [(3, [1]),(5, [2])]⟩
theorem one_steps:stepsP 0 2 oneP 4=oneS:=by
 unfold stepsP
 rw [if_neg (by decide),show (4294967296:Nat)=4294967293+1+1+1 from rfl]
 rfl
theorem one_plan:planX (oneX b1 b2 b3 b4)=oneS:=by
 unfold planX
 rw [if_pos one_ok]
 show planA 2 4 [oneP]=oneS
 have h1:oneS.Perm (planA 2 4 [oneP]):=by
  rw [←one_steps,stepsP_run]
  have:=runA_jobs 2 (4294967295 - (4:UInt32).toNat) ((4:UInt32).toNat+1) (placed [oneP])
  rw [show placed [oneP]= [(0,oneP)] from rfl,List.flatMap_cons,List.flatMap_nil,List.append_nil] at this
  exact this
 refine (perm_sorted (le:=fun a b=>¬ltP b a) (fun a b hab hn=>hn hab) h1 ?_ (planA_sorted 2 4 [oneP])).symm
 refine List.pairwise_cons.2 ⟨fun b hb=>?_,List.pairwise_singleton _ _⟩
 obtain rfl:=List.mem_singleton.1 hb
 unfold ltP
 decide
theorem one_planY:planY (oneX b1 b2 b3 b4) 9=oneS:=by
 obtain ⟨r,h1,_,h3⟩:=planY_cut (oneX b1 b2 b3 b4) 9
 rw [one_plan] at h1
 have hr:r= []:=by
  rcases Nat.eq_zero_or_pos r.length with h|h
  ·exact List.eq_nil_of_length_eq_zero h
  ·obtain ⟨A,z,rfl⟩:=cut_last h
   have h4:=h3 z (by simp)
   have h5:z∈oneS:=by rw [h1];simp
   rcases List.mem_cons.1 h5 with rfl|h5
   ·exact absurd h4 (by show ¬(4+9 < 5);omega)
   ·obtain rfl:=List.mem_singleton.1 h5
    exact absurd h4 (by show ¬(4+9 < 6);omega)
 rw [hr,List.append_nil] at h1
 exact h1.symm
theorem one_few:FewI (oneX b1 b2 b3 b4):=⟨by show 0≤6000;omega,by show 0≤600;omega,by show 0≤600;omega,by show 1≤600;omega,fun _ h=>(by cases h),fun _ h=>(by cases h),fun j hj=>(by obtain rfl:=List.mem_singleton.1 hj;rfl)⟩
theorem one_live:∀j∈(oneX b1 b2 b3 b4).jobs.l, -9223372036854775808≤j.live∧j.live≤9223372036854775807:=fun j hj=>by
 obtain rfl:=List.mem_singleton.1 hj
 show (-9223372036854775808:Int)≤ -1∧(-1:Int)≤9223372036854775807
 omega
end
theorem alive43_any (w0:World):Calls Tryz.prog 36 #[] w0 fun e w'=>e= .returned (.bool true)∧Chg N0 w0 w':=by
 have hp:=Hp.start (S:=N0) w0
 have us:=Tryz.underlying60
 have hst: -9223372036854775808≤(2:Int)∧(2:Int)≤9223372036854775807:=by omega
 have hn9: -9223372036854775808≤(9:Int)∧(9:Int)≤9223372036854775807:=by omega
 refine calls_x (args:= []) tabOk Tryz.func36 Tryz.ntmps36 Tryz.results36 rfl (Nat.le_of_ble_eq_true rfl) ?_
 ((conv=>whnf);repeat' ((first|((with_reducible refine br_id ?_);first|(with_reducible refine br_t ?_)|(with_reducible refine br_f ?_)|(with_reducible refine br_not ?_)|((with_reducible refine br_dec (fun hx=>?_) (fun hx=>?_))<;>(try (exfalso;first|omega|contradiction)))|((with_reducible refine br_eq (fun hx=>?_) (fun hx=>?_))<;>(try (exfalso;first|omega|contradiction)))|((with_reducible refine br_ne (fun hx=>?_) (fun hx=>?_))<;>(try (exfalso;first|omega|contradiction)))|((with_reducible refine br_s (fun hx=>?_) (fun hx=>?_))<;>(try (exfalso;first|omega|contradiction))))|((with_reducible refine ar_id ?_);first|(refine ar_i64 (by omega) ?_)|(refine ar_u32 (by omega) ?_)|(refine ar_u64 (by omega) ?_)|(refine ar_u8 (by omega) ?_))|((with_reducible refine cn_id ?_);first|(refine cn rfl ?_)|(refine cn ‹_› ?_)|(refine cn (by omega) ?_)|(refine cn (Chg.refl _ _) ?_))|((with_reducible refine ld_id ?_);first|(apply ld_hs hp;(focus repeat' constructor);exact rfl)|(refine ld_of ‹_› ?_))|((with_reducible refine ldn_id ?_);first|(apply lda_hs hp;(focus repeat' constructor);exact rfl)|(apply ldn_hs hp;(focus repeat' constructor);exact rfl;exact rfl))|((with_reducible refine al_id ?_);(refine al_cel hp ?_;clear hp;intro bb w hp))|((with_reducible refine st_id ?_);first|(apply sta_hs hp;(focus repeat' constructor);exact rfl;exact rfl;clear hp;intro w hp;(try dsimp only [List.set] at hp))|(apply st_hs hp;(focus repeat' constructor);exact rfl;exact rfl;clear hp;intro w hp;(try dsimp only [List.set] at hp)))|((with_reducible refine gen_id ?_);first|(apply gen_build;exact rfl;exact rfl)|(apply gen_len;exact rfl;exact rfl;assumption)|(apply gen_min;exact rfl;exact rfl;exact rfl)|(apply gen_max;exact rfl;exact rfl;exact rfl)|(apply gen_ix;exact rfl;exact rfl;exact rfl;exact rfl;omega)|(apply gen_ixa;exact rfl;exact rfl;exact rfl;exact rfl;omega))|((with_reducible refine dr_id ?_);first|(refine dr_auto tabOk (by kernel_rfl) (by decide+kernel) ?_;(try replace hp:=hp.drew))|(refine dr_autog tabOk (by kernel_rfl) (by decide+kernel) ?_;(try replace hp:=hp.drew))|(refine dr_autot tabOk (by kernel_rfl) (by decide+kernel) ?_;(try replace hp:=hp.drew)))|((with_reducible refine fk_id ?_);(refine fk_mk ?_ ?_))|((with_reducible refine rd_id ?_);first|(apply rd_len;exact rfl;exact rfl;assumption)|(apply rd_ix;exact rfl;exact rfl;exact rfl;exact rfl;omega)))<;>(conv=>whnf)))
 refine cl_eq (one_any _) rfl rfl ?_
 rintro e w ⟨b1,b2,b3,b4,rfl,hm⟩
 refine ⟨_,rfl,?_⟩
 have hof:=pof_any (oneX_at hm.ok) (Nat.le_refl _) one_few one_live hst 9 hn9
 replace hp:=hp.call0 hm.chg
 clear hm
 ((conv=>whnf);repeat' ((first|((with_reducible refine br_id ?_);first|(with_reducible refine br_t ?_)|(with_reducible refine br_f ?_)|(with_reducible refine br_not ?_)|((with_reducible refine br_dec (fun hx=>?_) (fun hx=>?_))<;>(try (exfalso;first|omega|contradiction)))|((with_reducible refine br_eq (fun hx=>?_) (fun hx=>?_))<;>(try (exfalso;first|omega|contradiction)))|((with_reducible refine br_ne (fun hx=>?_) (fun hx=>?_))<;>(try (exfalso;first|omega|contradiction)))|((with_reducible refine br_s (fun hx=>?_) (fun hx=>?_))<;>(try (exfalso;first|omega|contradiction))))|((with_reducible refine ar_id ?_);first|(refine ar_i64 (by omega) ?_)|(refine ar_u32 (by omega) ?_)|(refine ar_u64 (by omega) ?_)|(refine ar_u8 (by omega) ?_))|((with_reducible refine cn_id ?_);first|(refine cn rfl ?_)|(refine cn ‹_› ?_)|(refine cn (by omega) ?_)|(refine cn (Chg.refl _ _) ?_))|((with_reducible refine ld_id ?_);first|(apply ld_hs hp;(focus repeat' constructor);exact rfl)|(refine ld_of ‹_› ?_))|((with_reducible refine ldn_id ?_);first|(apply lda_hs hp;(focus repeat' constructor);exact rfl)|(apply ldn_hs hp;(focus repeat' constructor);exact rfl;exact rfl))|((with_reducible refine al_id ?_);(refine al_cel hp ?_;clear hp;intro bb w hp))|((with_reducible refine st_id ?_);first|(apply sta_hs hp;(focus repeat' constructor);exact rfl;exact rfl;clear hp;intro w hp;(try dsimp only [List.set] at hp))|(apply st_hs hp;(focus repeat' constructor);exact rfl;exact rfl;clear hp;intro w hp;(try dsimp only [List.set] at hp)))|((with_reducible refine gen_id ?_);first|(apply gen_build;exact rfl;exact rfl)|(apply gen_len;exact rfl;exact rfl;assumption)|(apply gen_min;exact rfl;exact rfl;exact rfl)|(apply gen_max;exact rfl;exact rfl;exact rfl)|(apply gen_ix;exact rfl;exact rfl;exact rfl;exact rfl;omega)|(apply gen_ixa;exact rfl;exact rfl;exact rfl;exact rfl;omega))|((with_reducible refine dr_id ?_);first|(refine dr_auto tabOk (by kernel_rfl) (by decide+kernel) ?_;(try replace hp:=hp.drew))|(refine dr_autog tabOk (by kernel_rfl) (by decide+kernel) ?_;(try replace hp:=hp.drew))|(refine dr_autot tabOk (by kernel_rfl) (by decide+kernel) ?_;(try replace hp:=hp.drew)))|((with_reducible refine fk_id ?_);(refine fk_mk ?_ ?_))|((with_reducible refine rd_id ?_);first|(apply rd_len;exact rfl;exact rfl;assumption)|(apply rd_ix;exact rfl;exact rfl;exact rfl;exact rfl;omega)))<;>(conv=>whnf)))
 refine cl_eq hof rfl rfl ?_
 rintro e w ⟨O,hO,_,rfl,hm⟩
 rw [show (9:Int).toNat=9 from rfl,one_planY] at hO
 replace hp:=hp.add hm
 clear hm hof
 replace hp:=hp.unfold
 refine ⟨_,rfl,?_⟩
 ((conv=>whnf);repeat' ((first|((with_reducible refine br_id ?_);first|(with_reducible refine br_t ?_)|(with_reducible refine br_f ?_)|(with_reducible refine br_not ?_)|((with_reducible refine br_dec (fun hx=>?_) (fun hx=>?_))<;>(try (exfalso;first|omega|contradiction)))|((with_reducible refine br_eq (fun hx=>?_) (fun hx=>?_))<;>(try (exfalso;first|omega|contradiction)))|((with_reducible refine br_ne (fun hx=>?_) (fun hx=>?_))<;>(try (exfalso;first|omega|contradiction)))|((with_reducible refine br_s (fun hx=>?_) (fun hx=>?_))<;>(try (exfalso;first|omega|contradiction))))|((with_reducible refine ar_id ?_);first|(refine ar_i64 (by omega) ?_)|(refine ar_u32 (by omega) ?_)|(refine ar_u64 (by omega) ?_)|(refine ar_u8 (by omega) ?_))|((with_reducible refine cn_id ?_);first|(refine cn rfl ?_)|(refine cn ‹_› ?_)|(refine cn (by omega) ?_)|(refine cn (Chg.refl _ _) ?_))|((with_reducible refine ld_id ?_);first|(apply ld_hs hp;(focus repeat' constructor);exact rfl)|(refine ld_of ‹_› ?_))|((with_reducible refine ldn_id ?_);first|(apply lda_hs hp;(focus repeat' constructor);exact rfl)|(apply ldn_hs hp;(focus repeat' constructor);exact rfl;exact rfl))|((with_reducible refine al_id ?_);(refine al_cel hp ?_;clear hp;intro bb w hp))|((with_reducible refine st_id ?_);first|(apply sta_hs hp;(focus repeat' constructor);exact rfl;exact rfl;clear hp;intro w hp;(try dsimp only [List.set] at hp))|(apply st_hs hp;(focus repeat' constructor);exact rfl;exact rfl;clear hp;intro w hp;(try dsimp only [List.set] at hp)))|((with_reducible refine gen_id ?_);first|(apply gen_build;exact rfl;exact rfl)|(apply gen_len;exact rfl;exact rfl;assumption)|(apply gen_min;exact rfl;exact rfl;exact rfl)|(apply gen_max;exact rfl;exact rfl;exact rfl)|(apply gen_ix;exact rfl;exact rfl;exact rfl;exact rfl;omega)|(apply gen_ixa;exact rfl;exact rfl;exact rfl;exact rfl;omega))|((with_reducible refine dr_id ?_);first|(refine dr_auto tabOk (by kernel_rfl) (by decide+kernel) ?_;(try replace hp:=hp.drew))|(refine dr_autog tabOk (by kernel_rfl) (by decide+kernel) ?_;(try replace hp:=hp.drew))|(refine dr_autot tabOk (by kernel_rfl) (by decide+kernel) ?_;(try replace hp:=hp.drew)))|((with_reducible refine fk_id ?_);(refine fk_mk ?_ ?_))|((with_reducible refine rd_id ?_);first|(apply rd_len;exact rfl;exact rfl;assumption)|(apply rd_ix;exact rfl;exact rfl;exact rfl;exact rfl;omega)))<;>(conv=>whnf)))
 refine cl_eq (one_any _) rfl rfl ?_
 rintro e w ⟨c1,c2,c3,c4,rfl,hm⟩
 refine ⟨_,rfl,?_⟩
 have hqu:=pquiet_any (oneX_at hm.ok) (Nat.le_refl _) one_few one_live hst
 replace hp:=hp.call0 hm.chg
 clear hm
 rw [one_ok,one_plan] at hqu
 ((conv=>whnf);repeat' ((first|((with_reducible refine br_id ?_);first|(with_reducible refine br_t ?_)|(with_reducible refine br_f ?_)|(with_reducible refine br_not ?_)|((with_reducible refine br_dec (fun hx=>?_) (fun hx=>?_))<;>(try (exfalso;first|omega|contradiction)))|((with_reducible refine br_eq (fun hx=>?_) (fun hx=>?_))<;>(try (exfalso;first|omega|contradiction)))|((with_reducible refine br_ne (fun hx=>?_) (fun hx=>?_))<;>(try (exfalso;first|omega|contradiction)))|((with_reducible refine br_s (fun hx=>?_) (fun hx=>?_))<;>(try (exfalso;first|omega|contradiction))))|((with_reducible refine ar_id ?_);first|(refine ar_i64 (by omega) ?_)|(refine ar_u32 (by omega) ?_)|(refine ar_u64 (by omega) ?_)|(refine ar_u8 (by omega) ?_))|((with_reducible refine cn_id ?_);first|(refine cn rfl ?_)|(refine cn ‹_› ?_)|(refine cn (by omega) ?_)|(refine cn (Chg.refl _ _) ?_))|((with_reducible refine ld_id ?_);first|(apply ld_hs hp;(focus repeat' constructor);exact rfl)|(refine ld_of ‹_› ?_))|((with_reducible refine ldn_id ?_);first|(apply lda_hs hp;(focus repeat' constructor);exact rfl)|(apply ldn_hs hp;(focus repeat' constructor);exact rfl;exact rfl))|((with_reducible refine al_id ?_);(refine al_cel hp ?_;clear hp;intro bb w hp))|((with_reducible refine st_id ?_);first|(apply sta_hs hp;(focus repeat' constructor);exact rfl;exact rfl;clear hp;intro w hp;(try dsimp only [List.set] at hp))|(apply st_hs hp;(focus repeat' constructor);exact rfl;exact rfl;clear hp;intro w hp;(try dsimp only [List.set] at hp)))|((with_reducible refine gen_id ?_);first|(apply gen_build;exact rfl;exact rfl)|(apply gen_len;exact rfl;exact rfl;assumption)|(apply gen_min;exact rfl;exact rfl;exact rfl)|(apply gen_max;exact rfl;exact rfl;exact rfl)|(apply gen_ix;exact rfl;exact rfl;exact rfl;exact rfl;omega)|(apply gen_ixa;exact rfl;exact rfl;exact rfl;exact rfl;omega))|((with_reducible refine dr_id ?_);first|(refine dr_auto tabOk (by kernel_rfl) (by decide+kernel) ?_;(try replace hp:=hp.drew))|(refine dr_autog tabOk (by kernel_rfl) (by decide+kernel) ?_;(try replace hp:=hp.drew))|(refine dr_autot tabOk (by kernel_rfl) (by decide+kernel) ?_;(try replace hp:=hp.drew)))|((with_reducible refine fk_id ?_);(refine fk_mk ?_ ?_))|((with_reducible refine rd_id ?_);first|(apply rd_len;exact rfl;exact rfl;assumption)|(apply rd_ix;exact rfl;exact rfl;exact rfl;exact rfl;omega)))<;>(conv=>whnf)))
 refine cl_eq hqu rfl rfl ?_
 rintro e w ⟨q,hq,_,rfl,hc⟩
 replace hp:=hp.call0 hc
 clear hqu hc
 refine ⟨_,rfl,?_⟩
 obtain rfl:q=6:=UInt32.toNat_inj.1 (hq rfl)
 obtain ⟨A,c,l⟩:=O
 dsimp only at hO
 have hll:=congrArg List.length hO
 rw [List.length_map] at hll
 obtain ⟨z1,l,rfl⟩:=cut_head (l:=l) (by rw [hll];decide)
 obtain ⟨z2,l,rfl⟩:=cut_head (l:=l) (by rw [List.length_cons] at hll;have:l.length+1=2:=hll;omega)
 obtain rfl:l= []:=List.eq_nil_of_length_eq_zero (by rw [List.length_cons,List.length_cons] at hll;have:l.length+1+1=2:=hll;omega)
 have hz1:z1.height=5:=congrArg SubP.height (List.cons.inj hO).1
 have hz2:z2.height=6:=congrArg SubP.height (List.cons.inj (List.cons.inj hO).2).1
 obtain ⟨bo,o,_,hA,_,_,_⟩:=(hp.row (j:=0) rfl).has (i:=0) (by show 0 < 2;omega)
 dsimp only at hA
 subst hA
 have hcost:∀{w:World} {d1 d2 d3 d4:Nat},(star (oneRs d1 d2 d3 d4)).ok w→Calls Tryz.prog 39 #[(oneX d1 d2 d3 d4).v,i64 9] w fun e w'=>e= .returned (.int .u64 8)∧Chg N0 w w':=fun h=>by
  have:=pcost_any (oneX_at h) (Nat.le_refl _) one_few one_live hst 9 hn9
  rw [show (9:Int).toNat=9 from rfl,one_planY] at this
  exact this
 obtain ⟨k1,d1,g1,t1,x1⟩:=z1
 obtain ⟨k2,d2,g2,t2,x2⟩:=z2
 dsimp only at hz1 hz2
 subst hz1 hz2
 have f5:(5:UInt32).toNat=5:=rfl
 have f6:(6:UInt32).toNat=6:=rfl
 have hl2:([⟨k1,d1,5,t1,x1⟩,⟨k2,d2,6,t2,x2⟩]:List Sub).length=2:=rfl
 clear hO hll hq
 ((conv=>whnf);repeat' ((first|((with_reducible refine br_id ?_);first|(with_reducible refine br_t ?_)|(with_reducible refine br_f ?_)|((with_reducible refine br_eq (fun hx=>?_) (fun hx=>?_))<;>(try (exfalso;first|omega|contradiction))))|((with_reducible refine ld_id ?_);first|((refine ld_own hp 0 rfl rfl 0 34 rfl rfl (by rfl) ?_))|((refine ld_own hp 0 rfl rfl 1 34 rfl rfl (by rfl) ?_)))|((with_reducible refine gen_id ?_);first|((refine gen_ixs rfl rfl rfl rfl rfl (by show (0:Int)≤0∧(0:Int) < 2;omega) ?_))|((refine gen_ixs rfl rfl rfl rfl rfl (by show (0:Int)≤1∧(1:Int) < 2;omega) ?_))|(apply gen_len;exact rfl;exact rfl;assumption))|((with_reducible refine cl_id ?_);first|((refine cl_eq (one_any _) rfl rfl ?_;rintro e w ⟨a1,a2,a3,a4,rfl,hm⟩;have hco:=hcost hm.ok;replace hp:=hp.call0 hm.chg;clear hm;refine ⟨_,rfl,?_⟩))|((refine cl_eq (hco) rfl rfl ?_;rintro e w ⟨rfl,hcc⟩;replace hp:=hp.call0 hcc;refine ⟨_,rfl,?_⟩))))<;>(conv=>whnf)))
 all_goals first
  |(exfalso;omega)
  |(exfalso;exact hx rfl)
  |exact ps_val (v':= .bool true) rfl ⟨rfl,hp.chg⟩
end Go.Proofs.YteabebmlclgakaaGreat
/- Plan7: the plan of any state: the law. Of states of a bounded bulk. -/
namespace Go.Proofs.YteabebmlclgakaaGreat
open Go.RowKit
set_option maxRecDepth 100000
set_option maxHeartbeats 4000000
theorem nd_inj {α β:Type} {f:α→β} {a b:α}:∀{l:List α},(l.map f).Nodup→a∈l→b∈l→f a=f b→a=b
 | [],_,h,_,_=>by cases h
 |x::l,hn,ha,hb,he=>by
  rw [List.map_cons,List.nodup_cons] at hn
  rcases List.mem_cons.1 ha with h1|h1
  ·rcases List.mem_cons.1 hb with h2|h2
   ·rw [h1,h2]
   ·exact absurd (by rw [←h1,he];exact List.mem_map_of_mem h2) hn.1
  ·rcases List.mem_cons.1 hb with h2|h2
   ·exact absurd (by rw [←h2,←he];exact List.mem_map_of_mem h1) hn.1
   ·exact nd_inj hn.2 h1 h2 he
theorem okX_right {x:Sta} (h:okX x=true):rightS x=true:=by
 unfold okX at h
 exact (Bool.and_eq_true _ _▸h).1
theorem planY_tier {x:Sta} {n:Nat} {s:StpP} (hs:s∈planY x n) {j:Job} (hj:j∈x.jobs.l) (hk:j.key=s.sub.key):0≤s.sub.tier∧s.sub.tier < (j.pay.l.length:Int):=by
 unfold planY at hs
 by_cases ho:okX x=true
 ·rw [if_pos ho] at hs
  obtain ⟨k,hk1,hk2,hk3,t,hk4,_⟩:=planB_job hs
  have he:j.p=k:=nd_inj (f:=fun q:JobP=>q.key) (rightS_keys (okX_right ho)) (List.mem_map_of_mem hj) hk1 (by show j.key=k.key;rw [hk,hk2])
  subst he
  have h1:=(List.getElem?_eq_some_iff.1 hk4).1
  rw [show j.p.tiers.length=j.pay.l.length from List.length_map ..] at h1
  omega
 ·rw [if_neg ho] at hs
  cases hs
theorem planY_fee (x:Sta) (n:Nat):((planY x n).map (·.sub)).map (feeL (x.jobs.l.map Job.p))=(planY x n).map fun s=>s.fee.toNat:=by
 unfold planY
 by_cases ho:okX x=true
 ·rw [if_pos ho]
  exact planB_fee (rightS_keys (okX_right ho)) n
 ·rw [if_neg ho]
  rfl
theorem planTells_any {B:Nat} {w0:World} {x:Sta} (hs:StaAt B w0 x) (hb:StaB 1048576 x) (hBw:B≤w0.heap.size) (hlv:∀j∈x.jobs.l, -9223372036854775808≤j.live∧j.live≤9223372036854775807) (hst: -9223372036854775808≤x.cfg.stp∧x.cfg.stp≤9223372036854775807) (n:Int) (hn: -9223372036854775808≤n∧n≤9223372036854775807):Calls Tryz.prog 7 #[x.v,i64 n] w0 fun e w'=>e= .returned (.bool true)∧Chg N0 w0 w':=by
 have hp:=Hp.start (S:=N0) w0
 have hB:∀b,N0 b→B≤b:=fun _ hh=>hh.elim
 have hfw:=fun {w:World} (hc:Chg N0 w0 w)=>few31_any (hs.keep hc hB) hb
 cases hq:fewS x with
 |false=>
  rw [hq] at hfw
  refine calls_x (args:= [_,_]) tabOk Tryz.func7 Tryz.ntmps7 Tryz.results7 rfl (Nat.le_of_ble_eq_true rfl) ?_
  ((conv=>whnf);repeat' ((first|((with_reducible refine br_id ?_);first|(with_reducible refine br_t ?_)|(with_reducible refine br_f ?_)|(with_reducible refine br_not ?_))|((with_reducible refine ldn_id ?_);(apply lda_hs hp;(focus repeat' constructor);exact rfl))|((with_reducible refine al_id ?_);(refine al_cel hp ?_;clear hp;intro bb w hp))|((with_reducible refine cl_id ?_);first|((refine cl_eq ((hfw hp.chg)) rfl rfl ?_;rintro e w ⟨rfl,hcc⟩;replace hp:=hp.call0 hcc;refine ⟨_,rfl,?_⟩))|((refine cl_eq ((alive43_any _)) rfl rfl ?_;rintro e w ⟨rfl,hcc⟩;replace hp:=hp.call0 hcc;refine ⟨_,rfl,?_⟩))))<;>(conv=>whnf)))
  exact ps_val (v':= .bool true) rfl ⟨rfl,hp.chg⟩
 |true=>
 rw [hq] at hfw
 have hf:=fewS_at hq
 by_cases hgt:300 < n
 ·have hc1:decide (n > 300)=true:=decide_eq_true hgt
  refine calls_x (args:= [_,_]) tabOk Tryz.func7 Tryz.ntmps7 Tryz.results7 rfl (Nat.le_of_ble_eq_true rfl) ?_
  ((conv=>whnf);repeat' ((first|((with_reducible refine br_id ?_);first|((with_reducible refine br_1 hc1 ?_))|(with_reducible refine br_t ?_)|(with_reducible refine br_f ?_)|(with_reducible refine br_not ?_))|((with_reducible refine ldn_id ?_);(apply lda_hs hp;(focus repeat' constructor);exact rfl))|((with_reducible refine al_id ?_);(refine al_cel hp ?_;clear hp;intro bb w hp))|((with_reducible refine cl_id ?_);first|((refine cl_eq ((hfw hp.chg)) rfl rfl ?_;rintro e w ⟨rfl,hcc⟩;replace hp:=hp.call0 hcc;refine ⟨_,rfl,?_⟩))|((refine cl_eq ((alive43_any _)) rfl rfl ?_;rintro e w ⟨rfl,hcc⟩;replace hp:=hp.call0 hcc;refine ⟨_,rfl,?_⟩))))<;>(conv=>whnf)))
  exact ps_val (v':= .bool true) rfl ⟨rfl,hp.chg⟩
 have hc1:decide (n > 300)=false:=decide_eq_false hgt
 have hfee:=planY_fee x n.toNat
 have hco:=fun {w:World} (hc:Chg N0 w0 w)=>pcost_any (hs.keep hc hB) (Nat.le_trans hBw hc.size) hf hlv hst n hn
 refine calls_x (args:= [_,_]) tabOk Tryz.func7 Tryz.ntmps7 Tryz.results7 rfl (Nat.le_of_ble_eq_true rfl) ?_
 ((conv=>whnf);repeat' ((first|((with_reducible refine br_id ?_);first|((with_reducible refine br_0 hc1 ?_))|(with_reducible refine br_t ?_)|(with_reducible refine br_f ?_)|(with_reducible refine br_not ?_))|((with_reducible refine ldn_id ?_);(apply lda_hs hp;(focus repeat' constructor);exact rfl))|((with_reducible refine al_id ?_);(refine al_cel hp ?_;clear hp;intro bb w hp))|((with_reducible refine cl_id ?_);((refine cl_eq ((hfw hp.chg)) rfl rfl ?_;rintro e w ⟨rfl,hcc⟩;replace hp:=hp.call0 hcc;refine ⟨_,rfl,?_⟩))))<;>(conv=>whnf)))
 refine cl_eq (pof_any (hs.keep hp.chg hB) (Nat.le_trans hBw hp.chg.size) hf hlv hst n hn) rfl rfl ?_
 rintro e w ⟨O,hO,hOl,rfl,hm⟩
 replace hp:=hp.add hm
 clear hm
 refine ⟨_,rfl,?_⟩
 ((conv=>whnf);repeat' (((with_reducible refine ldn_id ?_);(apply lda_hs hp;(focus repeat' constructor);exact rfl))<;>(conv=>whnf)))
 refine cl_eq (rof_any (hs.keep hp.chg hB) (Nat.le_trans hBw hp.chg.size) hf hlv hst n ⟨hn.1,by omega⟩) rfl rfl ?_
 rintro e w ⟨O2,hO2,rfl,hm⟩
 replace hp:=hp.add hm
 clear hm
 refine ⟨_,rfl,?_⟩
 have hO2l:O2.l.length≤12000:=by
  have h1:=congrArg List.length (hO2.trans hO.symm)
  rw [List.length_map,List.length_map] at h1
  omega
 have hall:∀{w:World} {rs:List Res},Hp N0 w0 w rs→star (subRs O)∈rs→star (subRs O2)∈rs→Calls Tryz.prog 23 #[O.v,O2.v] w fun e w'=>e= .returned (.bool true)∧Chg N0 w w':=fun hp h1 h2=>by
  have:=rall33_any (subRs_at (hp.ok _ h1)) (subRs_at (hp.ok _ h2))
  rw [decide_eq_true (show O.l.map (·.p)=O2.l.map (·.p) from hO.trans hO2.symm)] at this
  exact this
 have hrc:∀{w:World} {rs:List Res},Hp N0 w0 w rs→star (subRs O2)∈rs→Calls Tryz.prog 40 #[x.v,O2.v] w fun e w'=>e= .returned (.int .u64 ((((planY x n.toNat).map fun s=>s.fee.toNat).sum:Nat):Int))∧Chg N0 w w':=fun {w rs} hp h2=>by
  have:=rcost_any (hs.keep hp.chg hB) (Nat.le_trans hBw hp.chg.size) hf (subRs_at (hp.ok _ h2)).row hO2l fun s hsm j hj hk=>by
   have h3:s.p∈(planY x n.toNat).map (·.sub):=by rw [←hO2];exact List.mem_map_of_mem hsm
   obtain ⟨st,h4,h5⟩:=List.mem_map.1 h3
   have h6:=planY_tier h4 hj (by rw [h5];exact hk)
   rw [h5] at h6
   exact h6
  rw [hO2,hfee] at this
  exact this
 obtain ⟨T,hT⟩:∃T,((planY x n.toNat).map fun s=>s.fee.toNat).sum=T:=⟨_,rfl⟩
 rw [hT] at hco hrc
 clear hfee hO hO2
 ((conv=>whnf);repeat' ((first|((with_reducible refine br_id ?_);first|(with_reducible refine br_t ?_)|(with_reducible refine br_f ?_)|(with_reducible refine br_not ?_)|((with_reducible refine br_dec (fun hx=>?_) (fun hx=>?_))<;>(try (exfalso;first|omega|contradiction)))|((with_reducible refine br_eq (fun hx=>?_) (fun hx=>?_))<;>(try (exfalso;first|omega|contradiction)))|((with_reducible refine br_ne (fun hx=>?_) (fun hx=>?_))<;>(try (exfalso;first|omega|contradiction)))|((with_reducible refine br_s (fun hx=>?_) (fun hx=>?_))<;>(try (exfalso;first|omega|contradiction))))|((with_reducible refine ar_id ?_);first|(refine ar_i64 (by omega) ?_)|(refine ar_u32 (by omega) ?_)|(refine ar_u64 (by omega) ?_)|(refine ar_u8 (by omega) ?_))|((with_reducible refine cn_id ?_);first|(refine cn rfl ?_)|(refine cn ‹_› ?_)|(refine cn (by omega) ?_)|(refine cn (Chg.refl _ _) ?_))|((with_reducible refine ld_id ?_);first|(apply ld_hs hp;(focus repeat' constructor);exact rfl)|(refine ld_of ‹_› ?_))|((with_reducible refine ldn_id ?_);first|(apply lda_hs hp;(focus repeat' constructor);exact rfl)|(apply ldn_hs hp;(focus repeat' constructor);exact rfl;exact rfl))|((with_reducible refine al_id ?_);(refine al_cel hp ?_;clear hp;intro bb w hp))|((with_reducible refine st_id ?_);first|(apply sta_hs hp;(focus repeat' constructor);exact rfl;exact rfl;clear hp;intro w hp;(try dsimp only [List.set] at hp))|(apply st_hs hp;(focus repeat' constructor);exact rfl;exact rfl;clear hp;intro w hp;(try dsimp only [List.set] at hp)))|((with_reducible refine gen_id ?_);first|(apply gen_build;exact rfl;exact rfl)|(apply gen_len;exact rfl;exact rfl;assumption)|(apply gen_min;exact rfl;exact rfl;exact rfl)|(apply gen_max;exact rfl;exact rfl;exact rfl)|(apply gen_ix;exact rfl;exact rfl;exact rfl;exact rfl;omega)|(apply gen_ixa;exact rfl;exact rfl;exact rfl;exact rfl;omega))|((with_reducible refine fk_id ?_);(refine fk_mk ?_ ?_))|((with_reducible refine rd_id ?_);first|(apply rd_len;exact rfl;exact rfl;assumption)|(apply rd_ix;exact rfl;exact rfl;exact rfl;exact rfl;omega)))<;>(conv=>whnf)))
 refine dr_autos [] 1000 tabOk (by kernel_rfl) (by decide+kernel) ?_
 replace hp:=hp.drew
 ((conv=>whnf);repeat' ((first|((with_reducible refine br_id ?_);first|(with_reducible refine br_t ?_)|((with_reducible refine br_eq (fun hx=>?_) (fun hx=>?_))<;>(try (exfalso;first|omega|contradiction))))|((with_reducible refine cn_id ?_);(refine cn ‹_› ?_))|((with_reducible refine ldn_id ?_);(apply lda_hs hp;(focus repeat' constructor);exact rfl))|((with_reducible refine cl_id ?_);first|((refine cl_eq ((hall hp (by simp) (by simp))) rfl rfl ?_;rintro e w ⟨rfl,hcc⟩;replace hp:=hp.call0 hcc;refine ⟨_,rfl,?_⟩))|((refine cl_eq ((hrc hp (by simp))) rfl rfl ?_;rintro e w ⟨rfl,hcc⟩;replace hp:=hp.call0 hcc;refine ⟨_,rfl,?_⟩))|((refine cl_eq ((hco hp.chg)) rfl rfl ?_;rintro e w ⟨rfl,hcc⟩;replace hp:=hp.call0 hcc;refine ⟨_,rfl,?_⟩))|((refine cl_eq ((alive43_any _)) rfl rfl ?_;rintro e w ⟨rfl,hcc⟩;replace hp:=hp.call0 hcc;refine ⟨_,rfl,?_⟩))))<;>(conv=>whnf)))
 all_goals first
  |(exfalso;omega)
  |(exfalso;exact hx rfl)
  |exact ps_val (v':= .bool true) rfl ⟨rfl,hp.chg⟩
end Go.Proofs.YteabebmlclgakaaGreat
