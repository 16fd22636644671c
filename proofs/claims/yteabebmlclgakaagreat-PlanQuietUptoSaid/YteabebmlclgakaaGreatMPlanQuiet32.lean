/- MPlanQuiet32: Plan6, Plan8. -/
import Derived.Test.YteabebmlclgakaaGreatMPlanQuiet29
import Derived.Test.YteabebmlclgakaaGreatMPlanQuiet7
import Derived.Test.YteabebmlclgakaaGreatMPlanQuiet31
set_option linter.unusedSimpArgs false
set_option linter.unusedVariables false
/- Plan6: the example of plans. No condition. -/
namespace Go.Proofs.YteabebmlclgakaaGreat
open Go.RowKit
set_option maxRecDepth 100000
set_option maxHeartbeats 4000000
abbrev oneT (b1 b2:Nat):List Tier:= [⟨3,⟨some ⟨b1,0,none⟩,1, [1]⟩⟩,⟨5,⟨some ⟨b2,0,none⟩,1, [2]⟩⟩]
abbrev oneJ (b1 b2 b3:Nat):Job:=⟨⟨0,0⟩,Id.z,4,0, -1,⟨some ⟨b3,0,none⟩,2,oneT b1 b2⟩⟩
abbrev oneX (b1 b2 b3 b4:Nat):Sta:=⟨⟨1,2,1,1,1,1⟩,4,0,0,Sl.nil,Sl.nil,Sl.nil,⟨some ⟨b4,0,none⟩,1, [oneJ b1 b2 b3]⟩⟩
abbrev oneRs (b1 b2 b3 b4:Nat):List Res:= [rowR 49 38 Job.c ⟨some ⟨b4,0,none⟩,1, [oneJ b1 b2 b3]⟩,rowR 51 2 Tier.c ⟨some ⟨b3,0,none⟩,2,oneT b1 b2⟩,rowR 5 1 u8L ⟨some ⟨b2,0,none⟩,1, [2]⟩,rowR 5 1 u8L ⟨some ⟨b1,0,none⟩,1, [1]⟩]
theorem one_any (w0:World):Calls Tryz.prog 89 #[] w0 fun e w'=>∃b1 b2 b3 b4,e= .returned (oneX b1 b2 b3 b4).v∧Made (star (oneRs b1 b2 b3 b4)) w0 w':=by
 have hp:=Hp.start (S:=N0) w0
 refine calls_x (args:= []) tabOk Tryz.func89 Tryz.ntmps89 Tryz.results89 rfl (Nat.le_of_ble_eq_true rfl) ?_
 ((conv=>whnf);repeat' ((first|((with_reducible refine cn_id ?_);(refine cn rfl ?_))|((with_reducible refine ldn_id ?_);(apply lda_hs hp;(focus repeat' constructor);exact rfl))|((with_reducible refine al_id ?_);(refine al_cel hp ?_;clear hp;intro bb w hp))|((with_reducible refine st_id ?_);(apply sta_hs hp;(focus repeat' constructor);exact rfl;exact rfl;clear hp;intro w hp;(try dsimp only [List.set] at hp)))|((with_reducible refine gen_id ?_);first|((refine gen_bs rfl hp el_u8 u8L [1] [.int .u8 1] rfl rfl rfl (fun _ _=>rfl) (by omega) ?_);clear hp;intro b1 w hp)|((refine gen_bs rfl hp el_u8 u8L [2] [.int .u8 2] rfl rfl rfl (fun _ _=>rfl) (by omega) ?_);clear hp;intro b2 w hp)|((refine gen_bs rfl hp el_tier Tier.c (oneT b1 b2) ((oneT b1 b2).map Tier.v) rfl rfl rfl (fun _ h=>by simp at h;rcases h with h|h<;>subst h<;>rfl) (by omega) ?_);clear hp;intro b3 w hp)|((refine gen_build (t:=49) (out:=(oneJ b1 b2 b3).c) rfl (by kernel_rfl) ?_))|((refine gen_bs rfl hp el_job Job.c [oneJ b1 b2 b3] [Job.v (oneJ b1 b2 b3)] rfl rfl rfl (fun _ h=>by simp at h;subst h;rfl) (by omega) ?_);clear hp;intro b4 w hp)|((refine gen_build (t:=31) (out:=(oneX b1 b2 b3 b4).c) rfl (by kernel_rfl) ?_))|(apply gen_build;exact rfl;exact rfl)))<;>(conv=>whnf)))
 exact ps_val (v':=(oneX b1 b2 b3 b4).v) rfl ⟨b1,b2,b3,b4,rfl,(hp.pick (rs':=oneRs b1 b2 b3 b4) [0,2,3,4] (by decide) rfl).made (.refl _)⟩
theorem oneX_at {b1 b2 b3 b4:Nat} {w:World} (h:(star (oneRs b1 b2 b3 b4)).ok w):StaAt w.heap.size w (oneX b1 b2 b3 b4):=by
 have hp:=Hp.open h
 refine ⟨.none_,fun _ h=>(by cases h), .none_,⟨.none_,fun _ h=>(by cases h)⟩,hp.row (j:=0) rfl,fun j hj=>?_⟩
 obtain rfl:=List.mem_singleton.1 hj
 refine ⟨hp.row (j:=1) rfl,fun t ht=>?_⟩
 rcases List.mem_cons.1 ht with rfl|ht
 ·exact hp.row (j:=3) rfl
 ·obtain rfl:=List.mem_singleton.1 ht
  exact hp.row (j:=2) rfl
section
variable {b1 b2 b3 b4 : Nat}
theorem one_ok:okX (oneX b1 b2 b3 b4)=true:=by rfl
abbrev oneS:List StpP:= [⟨⟨⟨0,0⟩,Id.z,5,0, [1]⟩,0,3⟩,⟨⟨⟨0,0⟩,Id.z,6,1, [2]⟩,0,5⟩]
abbrev oneP:JobP:=⟨⟨0,0⟩,Id.z,4,0, -1, [(3, [1]),(5, [2])]⟩
theorem one_steps:stepsP 0 2 oneP 4=oneS:=by
 unfold stepsP
 rw [if_neg (by decide),show (4294967296:Nat)=4294967293+1+1+1 from rfl]
 rfl
theorem one_plan:planX (oneX b1 b2 b3 b4)=oneS:=by
 unfold planX
 rw [if_pos one_ok]
 show planA 2 4 [oneP]=oneS
 have h1:oneS.Perm (planA 2 4 [oneP]):=by
  rw [←one_steps,stepsP_run]
  have:=runA_jobs 2 (4294967295 - (4:UInt32).toNat) ((4:UInt32).toNat+1) (placed [oneP])
  rw [show placed [oneP]= [(0,oneP)] from rfl,List.flatMap_cons,List.flatMap_nil,List.append_nil] at this
  exact this
 refine (perm_sorted (le:=fun a b=>¬ltP b a) (fun a b hab hn=>hn hab) h1 ?_ (planA_sorted 2 4 [oneP])).symm
 refine List.pairwise_cons.2 ⟨fun b hb=>?_,List.pairwise_singleton _ _⟩
 obtain rfl:=List.mem_singleton.1 hb
 unfold ltP
 decide
theorem one_planY:planY (oneX b1 b2 b3 b4) 9=oneS:=by
 obtain ⟨r,h1,_,h3⟩:=planY_cut (oneX b1 b2 b3 b4) 9
 rw [one_plan] at h1
 have hr:r= []:=by
  rcases Nat.eq_zero_or_pos r.length with h|h
  ·exact List.eq_nil_of_length_eq_zero h
  ·obtain ⟨A,z,rfl⟩:=cut_last h
   have h4:=h3 z (by simp)
   have h5:z∈oneS:=by rw [h1];simp
   rcases List.mem_cons.1 h5 with rfl|h5
   ·exact absurd h4 (by show ¬(4+9 < 5);omega)
   ·obtain rfl:=List.mem_singleton.1 h5
    exact absurd h4 (by show ¬(4+9 < 6);omega)
 rw [hr,List.append_nil] at h1
 exact h1.symm
theorem one_few:FewI (oneX b1 b2 b3 b4):=⟨by show 0≤6000;omega,by show 0≤600;omega,by show 0≤600;omega,by show 1≤600;omega,fun _ h=>(by cases h),fun _ h=>(by cases h),fun j hj=>(by obtain rfl:=List.mem_singleton.1 hj;rfl)⟩
theorem one_live:∀j∈(oneX b1 b2 b3 b4).jobs.l, -9223372036854775808≤j.live∧j.live≤9223372036854775807:=fun j hj=>by
 obtain rfl:=List.mem_singleton.1 hj
 show (-9223372036854775808:Int)≤ -1∧(-1:Int)≤9223372036854775807
 omega
end
theorem alive43_any (w0:World):Calls Tryz.prog 36 #[] w0 fun e w'=>e= .returned (.bool true)∧Chg N0 w0 w':=by
 have hp:=Hp.start (S:=N0) w0
 have us:=Tryz.underlying60
 have hst: -9223372036854775808≤(2:Int)∧(2:Int)≤9223372036854775807:=by omega
 have hn9: -9223372036854775808≤(9:Int)∧(9:Int)≤9223372036854775807:=by omega
 refine calls_x (args:= []) tabOk Tryz.func36 Tryz.ntmps36 Tryz.results36 rfl (Nat.le_of_ble_eq_true rfl) ?_
 ((conv=>whnf);repeat' ((first|((with_reducible refine br_id ?_);first|(with_reducible refine br_t ?_)|(with_reducible refine br_f ?_)|(with_reducible refine br_not ?_)|((with_reducible refine br_dec (fun hx=>?_) (fun hx=>?_))<;>(try (exfalso;first|omega|contradiction)))|((with_reducible refine br_eq (fun hx=>?_) (fun hx=>?_))<;>(try (exfalso;first|omega|contradiction)))|((with_reducible refine br_ne (fun hx=>?_) (fun hx=>?_))<;>(try (exfalso;first|omega|contradiction)))|((with_reducible refine br_s (fun hx=>?_) (fun hx=>?_))<;>(try (exfalso;first|omega|contradiction))))|((with_reducible refine ar_id ?_);first|(refine ar_i64 (by omega) ?_)|(refine ar_u32 (by omega) ?_)|(refine ar_u64 (by omega) ?_)|(refine ar_u8 (by omega) ?_))|((with_reducible refine cn_id ?_);first|(refine cn rfl ?_)|(refine cn ‹_› ?_)|(refine cn (by omega) ?_)|(refine cn (Chg.refl _ _) ?_))|((with_reducible refine ld_id ?_);first|(apply ld_hs hp;(focus repeat' constructor);exact rfl)|(refine ld_of ‹_› ?_))|((with_reducible refine ldn_id ?_);first|(apply lda_hs hp;(focus repeat' constructor);exact rfl)|(apply ldn_hs hp;(focus repeat' constructor);exact rfl;exact rfl))|((with_reducible refine al_id ?_);(refine al_cel hp ?_;clear hp;intro bb w hp))|((with_reducible refine st_id ?_);first|(apply sta_hs hp;(focus repeat' constructor);exact rfl;exact rfl;clear hp;intro w hp;(try dsimp only [List.set] at hp))|(apply st_hs hp;(focus repeat' constructor);exact rfl;exact rfl;clear hp;intro w hp;(try dsimp only [List.set] at hp)))|((with_reducible refine gen_id ?_);first|(apply gen_build;exact rfl;exact rfl)|(apply gen_len;exact rfl;exact rfl;assumption)|(apply gen_min;exact rfl;exact rfl;exact rfl)|(apply gen_max;exact rfl;exact rfl;exact rfl)|(apply gen_ix;exact rfl;exact rfl;exact rfl;exact rfl;omega)|(apply gen_ixa;exact rfl;exact rfl;exact rfl;exact rfl;omega))|((with_reducible refine dr_id ?_);first|(refine dr_auto tabOk (by kernel_rfl) (by decide+kernel) ?_;(try replace hp:=hp.drew))|(refine dr_autog tabOk (by kernel_rfl) (by decide+kernel) ?_;(try replace hp:=hp.drew))|(refine dr_autot tabOk (by kernel_rfl) (by decide+kernel) ?_;(try replace hp:=hp.drew)))|((with_reducible refine fk_id ?_);(refine fk_mk ?_ ?_))|((with_reducible refine rd_id ?_);first|(apply rd_len;exact rfl;exact rfl;assumption)|(apply rd_ix;exact rfl;exact rfl;exact rfl;exact rfl;omega)))<;>(conv=>whnf)))
 refine cl_eq (one_any _) rfl rfl ?_
 rintro e w ⟨b1,b2,b3,b4,rfl,hm⟩
 refine ⟨_,rfl,?_⟩
 have hof:=pof_any (oneX_at hm.ok) (Nat.le_refl _) one_few one_live hst 9 hn9
 replace hp:=hp.call0 hm.chg
 clear hm
 ((conv=>whnf);repeat' ((first|((with_reducible refine br_id ?_);first|(with_reducible refine br_t ?_)|(with_reducible refine br_f ?_)|(with_reducible refine br_not ?_)|((with_reducible refine br_dec (fun hx=>?_) (fun hx=>?_))<;>(try (exfalso;first|omega|contradiction)))|((with_reducible refine br_eq (fun hx=>?_) (fun hx=>?_))<;>(try (exfalso;first|omega|contradiction)))|((with_reducible refine br_ne (fun hx=>?_) (fun hx=>?_))<;>(try (exfalso;first|omega|contradiction)))|((with_reducible refine br_s (fun hx=>?_) (fun hx=>?_))<;>(try (exfalso;first|omega|contradiction))))|((with_reducible refine ar_id ?_);first|(refine ar_i64 (by omega) ?_)|(refine ar_u32 (by omega) ?_)|(refine ar_u64 (by omega) ?_)|(refine ar_u8 (by omega) ?_))|((with_reducible refine cn_id ?_);first|(refine cn rfl ?_)|(refine cn ‹_› ?_)|(refine cn (by omega) ?_)|(refine cn (Chg.refl _ _) ?_))|((with_reducible refine ld_id ?_);first|(apply ld_hs hp;(focus repeat' constructor);exact rfl)|(refine ld_of ‹_› ?_))|((with_reducible refine ldn_id ?_);first|(apply lda_hs hp;(focus repeat' constructor);exact rfl)|(apply ldn_hs hp;(focus repeat' constructor);exact rfl;exact rfl))|((with_reducible refine al_id ?_);(refine al_cel hp ?_;clear hp;intro bb w hp))|((with_reducible refine st_id ?_);first|(apply sta_hs hp;(focus repeat' constructor);exact rfl;exact rfl;clear hp;intro w hp;(try dsimp only [List.set] at hp))|(apply st_hs hp;(focus repeat' constructor);exact rfl;exact rfl;clear hp;intro w hp;(try dsimp only [List.set] at hp)))|((with_reducible refine gen_id ?_);first|(apply gen_build;exact rfl;exact rfl)|(apply gen_len;exact rfl;exact rfl;assumption)|(apply gen_min;exact rfl;exact rfl;exact rfl)|(apply gen_max;exact rfl;exact rfl;exact rfl)|(apply gen_ix;exact rfl;exact rfl;exact rfl;exact rfl;omega)|(apply gen_ixa;exact rfl;exact rfl;exact rfl;exact rfl;omega))|((with_reducible refine dr_id ?_);first|(refine dr_auto tabOk (by kernel_rfl) (by decide+kernel) ?_;(try replace hp:=hp.drew))|(refine dr_autog tabOk (by kernel_rfl) (by decide+kernel) ?_;(try replace hp:=hp.drew))|(refine dr_autot tabOk (by kernel_rfl) (by decide+kernel) ?_;(try replace hp:=hp.drew)))|((with_reducible refine fk_id ?_);(refine fk_mk ?_ ?_))|((with_reducible refine rd_id ?_);first|(apply rd_len;exact rfl;exact rfl;assumption)|(apply rd_ix;exact rfl;exact rfl;exact rfl;exact rfl;omega)))<;>(conv=>whnf)))
 refine cl_eq hof rfl rfl ?_
 rintro e w ⟨O,hO,_,rfl,hm⟩
 rw [show (9:Int).toNat=9 from rfl,one_planY] at hO
 replace hp:=hp.add hm
 clear hm hof
 replace hp:=hp.unfold
 refine ⟨_,rfl,?_⟩
 ((conv=>whnf);repeat' ((first|((with_reducible refine br_id ?_);first|(with_reducible refine br_t ?_)|(with_reducible refine br_f ?_)|(with_reducible refine br_not ?_)|((with_reducible refine br_dec (fun hx=>?_) (fun hx=>?_))<;>(try (exfalso;first|omega|contradiction)))|((with_reducible refine br_eq (fun hx=>?_) (fun hx=>?_))<;>(try (exfalso;first|omega|contradiction)))|((with_reducible refine br_ne (fun hx=>?_) (fun hx=>?_))<;>(try (exfalso;first|omega|contradiction)))|((with_reducible refine br_s (fun hx=>?_) (fun hx=>?_))<;>(try (exfalso;first|omega|contradiction))))|((with_reducible refine ar_id ?_);first|(refine ar_i64 (by omega) ?_)|(refine ar_u32 (by omega) ?_)|(refine ar_u64 (by omega) ?_)|(refine ar_u8 (by omega) ?_))|((with_reducible refine cn_id ?_);first|(refine cn rfl ?_)|(refine cn ‹_› ?_)|(refine cn (by omega) ?_)|(refine cn (Chg.refl _ _) ?_))|((with_reducible refine ld_id ?_);first|(apply ld_hs hp;(focus repeat' constructor);exact rfl)|(refine ld_of ‹_› ?_))|((with_reducible refine ldn_id ?_);first|(apply lda_hs hp;(focus repeat' constructor);exact rfl)|(apply ldn_hs hp;(focus repeat' constructor);exact rfl;exact rfl))|((with_reducible refine al_id ?_);(refine al_cel hp ?_;clear hp;intro bb w hp))|((with_reducible refine st_id ?_);first|(apply sta_hs hp;(focus repeat' constructor);exact rfl;exact rfl;clear hp;intro w hp;(try dsimp only [List.set] at hp))|(apply st_hs hp;(focus repeat' constructor);exact rfl;exact rfl;clear hp;intro w hp;(try dsimp only [List.set] at hp)))|((with_reducible refine gen_id ?_);first|(apply gen_build;exact rfl;exact rfl)|(apply gen_len;exact rfl;exact rfl;assumption)|(apply gen_min;exact rfl;exact rfl;exact rfl)|(apply gen_max;exact rfl;exact rfl;exact rfl)|(apply gen_ix;exact rfl;exact rfl;exact rfl;exact rfl;omega)|(apply gen_ixa;exact rfl;exact rfl;exact rfl;exact rfl;omega))|((with_reducible refine dr_id ?_);first|(refine dr_auto tabOk (by kernel_rfl) (by decide+kernel) ?_;(try replace hp:=hp.drew))|(refine dr_autog tabOk (by kernel_rfl) (by decide+kernel) ?_;(try replace hp:=hp.drew))|(refine dr_autot tabOk (by kernel_rfl) (by decide+kernel) ?_;(try replace hp:=hp.drew)))|((with_reducible refine fk_id ?_);(refine fk_mk ?_ ?_))|((with_reducible refine rd_id ?_);first|(apply rd_len;exact rfl;exact rfl;assumption)|(apply rd_ix;exact rfl;exact rfl;exact rfl;exact rfl;omega)))<;>(conv=>whnf)))
 refine cl_eq (one_any _) rfl rfl ?_
 rintro e w ⟨c1,c2,c3,c4,rfl,hm⟩
 refine ⟨_,rfl,?_⟩
 have hqu:=pquiet_any (oneX_at hm.ok) (Nat.le_refl _) one_few one_live hst
 replace hp:=hp.call0 hm.chg
 clear hm
 rw [one_ok,one_plan] at hqu
 ((conv=>whnf);repeat' ((first|((with_reducible refine br_id ?_);first|(with_reducible refine br_t ?_)|(with_reducible refine br_f ?_)|(with_reducible refine br_not ?_)|((with_reducible refine br_dec (fun hx=>?_) (fun hx=>?_))<;>(try (exfalso;first|omega|contradiction)))|((with_reducible refine br_eq (fun hx=>?_) (fun hx=>?_))<;>(try (exfalso;first|omega|contradiction)))|((with_reducible refine br_ne (fun hx=>?_) (fun hx=>?_))<;>(try (exfalso;first|omega|contradiction)))|((with_reducible refine br_s (fun hx=>?_) (fun hx=>?_))<;>(try (exfalso;first|omega|contradiction))))|((with_reducible refine ar_id ?_);first|(refine ar_i64 (by omega) ?_)|(refine ar_u32 (by omega) ?_)|(refine ar_u64 (by omega) ?_)|(refine ar_u8 (by omega) ?_))|((with_reducible refine cn_id ?_);first|(refine cn rfl ?_)|(refine cn ‹_› ?_)|(refine cn (by omega) ?_)|(refine cn (Chg.refl _ _) ?_))|((with_reducible refine ld_id ?_);first|(apply ld_hs hp;(focus repeat' constructor);exact rfl)|(refine ld_of ‹_› ?_))|((with_reducible refine ldn_id ?_);first|(apply lda_hs hp;(focus repeat' constructor);exact rfl)|(apply ldn_hs hp;(focus repeat' constructor);exact rfl;exact rfl))|((with_reducible refine al_id ?_);(refine al_cel hp ?_;clear hp;intro bb w hp))|((with_reducible refine st_id ?_);first|(apply sta_hs hp;(focus repeat' constructor);exact rfl;exact rfl;clear hp;intro w hp;(try dsimp only [List.set] at hp))|(apply st_hs hp;(focus repeat' constructor);exact rfl;exact rfl;clear hp;intro w hp;(try dsimp only [List.set] at hp)))|((with_reducible refine gen_id ?_);first|(apply gen_build;exact rfl;exact rfl)|(apply gen_len;exact rfl;exact rfl;assumption)|(apply gen_min;exact rfl;exact rfl;exact rfl)|(apply gen_max;exact rfl;exact rfl;exact rfl)|(apply gen_ix;exact rfl;exact rfl;exact rfl;exact rfl;omega)|(apply gen_ixa;exact rfl;exact rfl;exact rfl;exact rfl;omega))|((with_reducible refine dr_id ?_);first|(refine dr_auto tabOk (by kernel_rfl) (by decide+kernel) ?_;(try replace hp:=hp.drew))|(refine dr_autog tabOk (by kernel_rfl) (by decide+kernel) ?_;(try replace hp:=hp.drew))|(refine dr_autot tabOk (by kernel_rfl) (by decide+kernel) ?_;(try replace hp:=hp.drew)))|((with_reducible refine fk_id ?_);(refine fk_mk ?_ ?_))|((with_reducible refine rd_id ?_);first|(apply rd_len;exact rfl;exact rfl;assumption)|(apply rd_ix;exact rfl;exact rfl;exact rfl;exact rfl;omega)))<;>(conv=>whnf)))
 refine cl_eq hqu rfl rfl ?_
 rintro e w ⟨q,hq,_,rfl,hc⟩
 replace hp:=hp.call0 hc
 clear hqu hc
 refine ⟨_,rfl,?_⟩
 obtain rfl:q=6:=UInt32.toNat_inj.1 (hq rfl)
 obtain ⟨A,c,l⟩:=O
 dsimp only at hO
 have hll:=congrArg List.length hO
 rw [List.length_map] at hll
 obtain ⟨z1,l,rfl⟩:=cut_head (l:=l) (by rw [hll];decide)
 obtain ⟨z2,l,rfl⟩:=cut_head (l:=l) (by rw [List.length_cons] at hll;have:l.length+1=2:=hll;omega)
 obtain rfl:l= []:=List.eq_nil_of_length_eq_zero (by rw [List.length_cons,List.length_cons] at hll;have:l.length+1+1=2:=hll;omega)
 have hz1:z1.height=5:=congrArg SubP.height (List.cons.inj hO).1
 have hz2:z2.height=6:=congrArg SubP.height (List.cons.inj (List.cons.inj hO).2).1
 obtain ⟨bo,o,_,hA,_,_,_⟩:=(hp.row (j:=0) rfl).has (i:=0) (by show 0 < 2;omega)
 dsimp only at hA
 subst hA
 have hcost:∀{w:World} {d1 d2 d3 d4:Nat},(star (oneRs d1 d2 d3 d4)).ok w→Calls Tryz.prog 39 #[(oneX d1 d2 d3 d4).v,i64 9] w fun e w'=>e= .returned (.int .u64 8)∧Chg N0 w w':=fun h=>by
  have:=pcost_any (oneX_at h) (Nat.le_refl _) one_few one_live hst 9 hn9
  rw [show (9:Int).toNat=9 from rfl,one_planY] at this
  exact this
 obtain ⟨k1,d1,g1,t1,x1⟩:=z1
 obtain ⟨k2,d2,g2,t2,x2⟩:=z2
 dsimp only at hz1 hz2
 subst hz1 hz2
 have f5:(5:UInt32).toNat=5:=rfl
 have f6:(6:UInt32).toNat=6:=rfl
 have hl2:([⟨k1,d1,5,t1,x1⟩,⟨k2,d2,6,t2,x2⟩]:List Sub).length=2:=rfl
 clear hO hll hq
 ((conv=>whnf);repeat' ((first|((with_reducible refine br_id ?_);first|(with_reducible refine br_t ?_)|(with_reducible refine br_f ?_)|((with_reducible refine br_eq (fun hx=>?_) (fun hx=>?_))<;>(try (exfalso;first|omega|contradiction))))|((with_reducible refine ld_id ?_);first|((refine ld_own hp 0 rfl rfl 0 34 rfl rfl (by rfl) ?_))|((refine ld_own hp 0 rfl rfl 1 34 rfl rfl (by rfl) ?_)))|((with_reducible refine gen_id ?_);first|((refine gen_ixs rfl rfl rfl rfl rfl (by show (0:Int)≤0∧(0:Int) < 2;omega) ?_))|((refine gen_ixs rfl rfl rfl rfl rfl (by show (0:Int)≤1∧(1:Int) < 2;omega) ?_))|(apply gen_len;exact rfl;exact rfl;assumption))|((with_reducible refine cl_id ?_);first|((refine cl_eq (one_any _) rfl rfl ?_;rintro e w ⟨a1,a2,a3,a4,rfl,hm⟩;have hco:=hcost hm.ok;replace hp:=hp.call0 hm.chg;clear hm;refine ⟨_,rfl,?_⟩))|((refine cl_eq (hco) rfl rfl ?_;rintro e w ⟨rfl,hcc⟩;replace hp:=hp.call0 hcc;refine ⟨_,rfl,?_⟩))))<;>(conv=>whnf)))
 all_goals first
  |(exfalso;omega)
  |(exfalso;exact hx rfl)
  |exact ps_val (v':= .bool true) rfl ⟨rfl,hp.chg⟩
end Go.Proofs.YteabebmlclgakaaGreat
/- Plan8: when nothing goes out any more; plans of fewer blocks: the law. Of states of a bounded bulk. -/
namespace Go.Proofs.YteabebmlclgakaaGreat
open Go.RowKit
set_option maxRecDepth 100000
set_option maxHeartbeats 4000000
theorem planY_no {x:Sta} (h:okX x=false) (n:Nat):planY x n= []:=by unfold planY;rw [if_neg (by rw [h];decide)]
theorem planY_pre (x:Sta) {m n:Nat} (h:m≤n):∃r,planY x n=planY x m++r:=by
 unfold planY
 by_cases ho:okX x=true
 ·rw [if_pos ho,if_pos ho]
  exact planB_pre _ _ _ h
 ·rw [if_neg ho,if_neg ho]
  exact ⟨[],rfl⟩
theorem quietX {x:Sta} (h:okX x=true) {q:Nat} (hq:q=quietP x.ht.toNat (planX x)):x.ht.toNat≤q∧(∀n,q≤x.ht.toNat+n→planY x n=planX x)∧(q=x.ht.toNat→planX x= [])∧(x.ht.toNat < q→∃s,(planX x).getLast? =some s∧s.sub.height.toNat=q):=by
 have h1:planX x=planA x.cfg.stp x.ht (x.jobs.l.map Job.p):=if_pos h
 have h2:∀n,planY x n=planB x.cfg.stp x.ht (x.jobs.l.map Job.p) n:=fun n=>if_pos h
 rw [h1] at hq ⊢
 obtain ⟨g1,g2,g3,g4⟩:=plan_quiet hq.symm
 exact ⟨g1,fun n hn=>by rw [h2];exact g2 n hn,g3,g4⟩
theorem planQuiet_any {B:Nat} {w0:World} {x:Sta} (hs:StaAt B w0 x) (hb:StaB 1048576 x) (hBw:B≤w0.heap.size) (hlv:∀j∈x.jobs.l, -9223372036854775808≤j.live∧j.live≤9223372036854775807) (hst: -9223372036854775808≤x.cfg.stp∧x.cfg.stp≤9223372036854775807) (few more:UInt8):Calls Tryz.prog 8 #[x.v,u8 few,u8 more] w0 fun e w'=>e= .returned (.bool true)∧Chg N0 w0 w':=by
 have hp:=Hp.start (S:=N0) w0
 have hB:∀b,N0 b→B≤b:=fun _ hh=>hh.elim
 have ubb:=Tryz.underlying4
 have us:=Tryz.underlying60
 have hfw:=fun {w:World} (hc:Chg N0 w0 w)=>few31_any (hs.keep hc hB) hb
 cases hq:fewS x with
 |false=>
  rw [hq] at hfw
  refine calls_x (args:= [_,_,_]) tabOk Tryz.func8 Tryz.ntmps8 Tryz.results8 rfl (Nat.le_of_ble_eq_true rfl) ?_
  ((conv=>whnf);repeat' ((first|((with_reducible refine br_id ?_);first|(with_reducible refine br_f ?_)|(with_reducible refine br_not ?_))|((with_reducible refine ldn_id ?_);(apply lda_hs hp;(focus repeat' constructor);exact rfl))|((with_reducible refine al_id ?_);(refine al_cel hp ?_;clear hp;intro bb w hp))|((with_reducible refine cl_id ?_);first|((refine cl_eq ((hfw hp.chg)) rfl rfl ?_;rintro e w ⟨rfl,hcc⟩;replace hp:=hp.call0 hcc;refine ⟨_,rfl,?_⟩))|((refine cl_eq ((alive43_any _)) rfl rfl ?_;rintro e w ⟨rfl,hcc⟩;replace hp:=hp.call0 hcc;refine ⟨_,rfl,?_⟩))))<;>(conv=>whnf)))
  exact ps_val (v':= .bool true) rfl ⟨rfl,hp.chg⟩
 |true=>
 rw [hq] at hfw
 have hf:=fewS_at hq
 have hfe:=few.toNat_lt
 have hmo:=more.toNat_lt
 have hht:=x.ht.toNat_lt
 have hrr:=fun {w:World} (hc:Chg N0 w0 w)=>rright31_any (hs.keep hc hB) hf hlv
 obtain ⟨na,hna⟩:∃na:Nat,min few.toNat more.toNat=na:=⟨_,rfl⟩
 obtain ⟨nb,hnb⟩:∃nb:Nat,max few.toNat more.toNat=nb:=⟨_,rfl⟩
 have hmin:min (few.toNat:Int) (more.toNat:Int)=(na:Int):=by omega
 have hmax:max (few.toNat:Int) (more.toNat:Int)=(nb:Int):=by omega
 have hab:na≤nb:=by omega
 have hqu:=fun {w:World} (hc:Chg N0 w0 w)=>pquiet_any (hs.keep hc hB) (Nat.le_trans hBw hc.size) hf hlv hst
 have hof:=fun {w:World} (hc:Chg N0 w0 w) (n:Nat) (hn:n≤9223372036854775807)=>pof_any (hs.keep hc hB) (Nat.le_trans hBw hc.size) hf hlv hst (n:Int) ⟨by omega,by omega⟩
 obtain ⟨r,hpre⟩:=planY_pre x hab
 obtain ⟨rt,hrs⟩:∃q,rightS x=q:=⟨_,rfl⟩
 rw [hrs] at hrr
 have hokd:okX x=(rt && decide (x.halt=0)):=by unfold okX;rw [hrs]
 have hsub:∀{w:World} {rs:List Res} {O1 O2:Sl Sub},O1.l.map Sub.p=(planY x na).map (·.sub)→O2.l.map Sub.p=(planY x nb).map (·.sub)→Hp N0 w0 w rs→star (subRs O1)∈rs→star (subRs O2)∈rs→O1.l.length≤O2.l.length∧Calls Tryz.prog 23 #[O1.v,(O2.cut 37 0 O1.l.length).v] w fun e w'=>e= .returned (.bool true)∧Chg N0 w w':=fun {w rs O1 O2} h1 h2 hp m1 m2=>by
  have l1:O1.l.length=(planY x na).length:=by have:=congrArg List.length h1;rwa [List.length_map,List.length_map] at this
  have l2:O2.l.length=(planY x nb).length:=by have:=congrArg List.length h2;rwa [List.length_map,List.length_map] at this
  have hle:O1.l.length≤O2.l.length:=by rw [l1,l2,hpre,List.length_append];omega
  refine ⟨hle,?_⟩
  have a2:=subRs_at (hp.ok _ m2)
  have hcut:(O2.cut 37 0 O1.l.length).l=O2.l.take O1.l.length:=List.drop_zero
  have ha2:SubsAt w.heap.size w (O2.cut 37 0 O1.l.length):=⟨a2.row.cut (Nat.zero_le _) hle,fun s hs=>a2.tx s (by rw [hcut] at hs;exact List.mem_of_mem_take hs)⟩
  have:=rall33_any (subRs_at (hp.ok _ m1)) ha2
  rw [decide_eq_true (show O1.l.map (·.p)=(O2.cut 37 0 O1.l.length).l.map (·.p) by
   rw [hcut,List.map_take,show O2.l.map (fun s=>s.p)=O2.l.map Sub.p from rfl,h2,show O1.l.map (fun s=>s.p)=O1.l.map Sub.p from rfl,h1,hpre,List.map_append,l1]
   rw [←List.length_map (f:=fun y:StpP=>y.sub),List.take_left])] at this
  exact this
 obtain ⟨ok,hok⟩:∃q,okX x=q:=⟨_,rfl⟩
 rw [hok] at hqu
 cases ok with
 |false=>
  have hYn:=planY_no hok
  have hz:∀{O:Sl Sub} {n:Nat},O.l.map Sub.p=(planY x n).map (·.sub)→O.l.length=0:=fun {O n} h=>by
   rw [hYn] at h
   have:=congrArg List.length h
   rwa [List.length_map] at this
  refine calls_x (args:= [_,_,_]) tabOk Tryz.func8 Tryz.ntmps8 Tryz.results8 rfl (Nat.le_of_ble_eq_true rfl) ?_
  ((conv=>whnf);repeat' ((first|((with_reducible refine br_id ?_);first|(with_reducible refine br_t ?_)|(with_reducible refine br_not ?_))|((with_reducible refine ldn_id ?_);(apply lda_hs hp;(focus repeat' constructor);exact rfl))|((with_reducible refine al_id ?_);(refine al_cel hp ?_;clear hp;intro bb w hp))|((with_reducible refine cl_id ?_);((refine cl_eq ((hfw hp.chg)) rfl rfl ?_;rintro e w ⟨rfl,hcc⟩;replace hp:=hp.call0 hcc;refine ⟨_,rfl,?_⟩))))<;>(conv=>whnf)))
  refine cl_eq (hqu hp.chg) rfl rfl ?_
  rintro e w ⟨q,_,hq0,rfl,hc⟩
  replace hp:=hp.call0 hc
  clear hc
  obtain rfl:=hq0 rfl
  refine ⟨_,rfl,?_⟩
  have z0:(0:UInt32).toNat=0:=rfl
  have hfin:(rt=false∨(rt=true∧x.halt≠0)):=by
   cases rt with
   |false=>exact .inl rfl
   |true=>exact .inr ⟨rfl,fun h=>by rw [hokd,h] at hok;cases hok⟩
  rcases hfin with rfl|⟨rfl,hh⟩
  ·have hne:(false !=false)=false:=rfl
   ((conv=>whnf);repeat' ((first|((with_reducible refine br_id ?_);first|((with_reducible refine br_0 hne ?_))|(with_reducible refine br_t ?_)|(with_reducible refine br_f ?_)|(with_reducible refine br_not ?_)|((with_reducible refine br_ne (fun hx=>?_) (fun hx=>?_))<;>(try (exfalso;first|omega|contradiction))))|((with_reducible refine ar_id ?_);(refine ar_i64 (by omega) ?_))|((with_reducible refine ldn_id ?_);(apply lda_hs hp;(focus repeat' constructor);exact rfl))|((with_reducible refine gen_id ?_);first|((refine gen_min rfl rfl rfl ?_;rw [hmin]))|((refine gen_max rfl rfl rfl ?_;rw [hmax])))|((with_reducible refine cl_id ?_);((refine cl_eq ((hrr hp.chg)) rfl rfl ?_;rintro e w ⟨rfl,hcc⟩;replace hp:=hp.call0 hcc;refine ⟨_,rfl,?_⟩))))<;>(conv=>whnf)))
   all_goals first
    |(exfalso;omega)
    |(exfalso;exact hx rfl)
    |skip
   refine dr_autos [] 1000 tabOk (by kernel_rfl) (by decide+kernel) ?_
   replace hp:=hp.drew
   ((conv=>whnf);repeat' (((with_reducible refine ldn_id ?_);(apply lda_hs hp;(focus repeat' constructor);exact rfl))<;>(conv=>whnf)))
   refine cl_eq (hof hp.chg na (by omega)) rfl rfl ?_
   rintro e w ⟨O1,hO1,hO1l,rfl,hm⟩
   replace hp:=hp.add hm
   replace hm:=hm.chg
   refine ⟨_,rfl,?_⟩
   refine cn hm ?_
   clear hm
   ((conv=>whnf);repeat' ((first|((with_reducible refine br_id ?_);first|(with_reducible refine br_t ?_)|(with_reducible refine br_f ?_)|(with_reducible refine br_not ?_)|((with_reducible refine br_dec (fun hx=>?_) (fun hx=>?_))<;>(try (exfalso;first|omega|contradiction)))|((with_reducible refine br_eq (fun hx=>?_) (fun hx=>?_))<;>(try (exfalso;first|omega|contradiction)))|((with_reducible refine br_ne (fun hx=>?_) (fun hx=>?_))<;>(try (exfalso;first|omega|contradiction)))|((with_reducible refine br_s (fun hx=>?_) (fun hx=>?_))<;>(try (exfalso;first|omega|contradiction))))|((with_reducible refine ar_id ?_);first|(refine ar_i64 (by omega) ?_)|(refine ar_u32 (by omega) ?_)|(refine ar_u64 (by omega) ?_)|(refine ar_u8 (by omega) ?_))|((with_reducible refine cn_id ?_);first|(refine cn rfl ?_)|(refine cn ‹_› ?_)|(refine cn (by omega) ?_)|(refine cn (Chg.refl _ _) ?_))|((with_reducible refine ld_id ?_);first|(apply ld_hs hp;(focus repeat' constructor);exact rfl)|(refine ld_of ‹_› ?_))|((with_reducible refine ldn_id ?_);first|(apply lda_hs hp;(focus repeat' constructor);exact rfl)|(apply ldn_hs hp;(focus repeat' constructor);exact rfl;exact rfl))|((with_reducible refine al_id ?_);(refine al_cel hp ?_;clear hp;intro bb w hp))|((with_reducible refine st_id ?_);first|(apply sta_hs hp;(focus repeat' constructor);exact rfl;exact rfl;clear hp;intro w hp;(try dsimp only [List.set] at hp))|(apply st_hs hp;(focus repeat' constructor);exact rfl;exact rfl;clear hp;intro w hp;(try dsimp only [List.set] at hp)))|((with_reducible refine gen_id ?_);first|(apply gen_build;exact rfl;exact rfl)|(apply gen_len;exact rfl;exact rfl;assumption)|(apply gen_min;exact rfl;exact rfl;exact rfl)|(apply gen_max;exact rfl;exact rfl;exact rfl)|(apply gen_ix;exact rfl;exact rfl;exact rfl;exact rfl;omega)|(apply gen_ixa;exact rfl;exact rfl;exact rfl;exact rfl;omega))|((with_reducible refine fk_id ?_);(refine fk_mk ?_ ?_))|((with_reducible refine rd_id ?_);first|(apply rd_len;exact rfl;exact rfl;assumption)|(apply rd_ix;exact rfl;exact rfl;exact rfl;exact rfl;omega)))<;>(conv=>whnf)))
   refine cl_eq (hof hp.chg nb (by omega)) rfl rfl ?_
   rintro e w ⟨O2,hO2,hO2l,rfl,hm⟩
   replace hp:=hp.add hm
   replace hm:=hm.chg
   refine ⟨_,rfl,?_⟩
   refine cn hm ?_
   clear hm
   rw [Int.toNat_natCast] at hO1 hO2
   obtain ⟨hle,hall⟩:=hsub hO1 hO2 hp (by simp) (by simp)
   have hz1:=hz hO1
   have hz2:=hz hO2
   have hat2:=(subRs_at (hp.ok (star (subRs O2)) (by simp))).row
   ((conv=>whnf);repeat' ((first|((with_reducible refine br_id ?_);first|(with_reducible refine br_t ?_)|(with_reducible refine br_f ?_)|(with_reducible refine br_not ?_)|((with_reducible refine br_dec (fun hx=>?_) (fun hx=>?_))<;>(try (exfalso;first|omega|contradiction)))|((with_reducible refine br_eq (fun hx=>?_) (fun hx=>?_))<;>(try (exfalso;first|omega|contradiction))))|((with_reducible refine gen_id ?_);first|((refine gen_cuth rfl el_sub O2 rfl hat2 rfl (h:=O1.l.length) rfl hle ?_))|(apply gen_len;exact rfl;exact rfl;assumption))|((with_reducible refine cl_id ?_);first|((refine cl_eq (hall) rfl rfl ?_;rintro e w ⟨rfl,hcc⟩;replace hp:=hp.call0 hcc;refine ⟨_,rfl,?_⟩))|((refine cl_eq ((alive43_any _)) rfl rfl ?_;rintro e w ⟨rfl,hcc⟩;replace hp:=hp.call0 hcc;refine ⟨_,rfl,?_⟩))))<;>(conv=>whnf)))
   all_goals first
    |(exfalso;omega)
    |(exfalso;exact hx rfl)
    |exact ps_val (v':= .bool true) rfl ⟨rfl,hp.chg⟩
  ·have he:false=(x.halt==0):=by symm;simpa using hh
   have hne:(false !=(x.halt==0))=false:=by rw [←he];rfl
   ((conv=>whnf);repeat' ((first|((with_reducible refine br_id ?_);first|((with_reducible refine br_0 hne ?_))|(with_reducible refine br_t ?_)|(with_reducible refine br_f ?_)|(with_reducible refine br_not ?_)|((with_reducible refine br_ne (fun hx=>?_) (fun hx=>?_))<;>(try (exfalso;first|omega|contradiction))))|((with_reducible refine ar_id ?_);(refine ar_i64 (by omega) ?_))|((with_reducible refine ld_id ?_);(apply ld_hs hp;(focus repeat' constructor);exact rfl))|((with_reducible refine ldn_id ?_);(apply lda_hs hp;(focus repeat' constructor);exact rfl))|((with_reducible refine gen_id ?_);first|((refine gen_min rfl rfl rfl ?_;rw [hmin]))|((refine gen_max rfl rfl rfl ?_;rw [hmax])))|((with_reducible refine cl_id ?_);((refine cl_eq ((hrr hp.chg)) rfl rfl ?_;rintro e w ⟨rfl,hcc⟩;replace hp:=hp.call0 hcc;refine ⟨_,rfl,?_⟩))))<;>(conv=>whnf)))
   all_goals first
    |(exfalso;omega)
    |(exfalso;exact hx rfl)
    |skip
   refine dr_autos [] 1000 tabOk (by kernel_rfl) (by decide+kernel) ?_
   replace hp:=hp.drew
   ((conv=>whnf);repeat' (((with_reducible refine ldn_id ?_);(apply lda_hs hp;(focus repeat' constructor);exact rfl))<;>(conv=>whnf)))
   refine cl_eq (hof hp.chg na (by omega)) rfl rfl ?_
   rintro e w ⟨O1,hO1,hO1l,rfl,hm⟩
   replace hp:=hp.add hm
   replace hm:=hm.chg
   refine ⟨_,rfl,?_⟩
   refine cn hm ?_
   clear hm
   ((conv=>whnf);repeat' ((first|((with_reducible refine br_id ?_);first|(with_reducible refine br_t ?_)|(with_reducible refine br_f ?_)|(with_reducible refine br_not ?_)|((with_reducible refine br_dec (fun hx=>?_) (fun hx=>?_))<;>(try (exfalso;first|omega|contradiction)))|((with_reducible refine br_eq (fun hx=>?_) (fun hx=>?_))<;>(try (exfalso;first|omega|contradiction)))|((with_reducible refine br_ne (fun hx=>?_) (fun hx=>?_))<;>(try (exfalso;first|omega|contradiction)))|((with_reducible refine br_s (fun hx=>?_) (fun hx=>?_))<;>(try (exfalso;first|omega|contradiction))))|((with_reducible refine ar_id ?_);first|(refine ar_i64 (by omega) ?_)|(refine ar_u32 (by omega) ?_)|(refine ar_u64 (by omega) ?_)|(refine ar_u8 (by omega) ?_))|((with_reducible refine cn_id ?_);first|(refine cn rfl ?_)|(refine cn ‹_› ?_)|(refine cn (by omega) ?_)|(refine cn (Chg.refl _ _) ?_))|((with_reducible refine ld_id ?_);first|(apply ld_hs hp;(focus repeat' constructor);exact rfl)|(refine ld_of ‹_› ?_))|((with_reducible refine ldn_id ?_);first|(apply lda_hs hp;(focus repeat' constructor);exact rfl)|(apply ldn_hs hp;(focus repeat' constructor);exact rfl;exact rfl))|((with_reducible refine al_id ?_);(refine al_cel hp ?_;clear hp;intro bb w hp))|((with_reducible refine st_id ?_);first|(apply sta_hs hp;(focus repeat' constructor);exact rfl;exact rfl;clear hp;intro w hp;(try dsimp only [List.set] at hp))|(apply st_hs hp;(focus repeat' constructor);exact rfl;exact rfl;clear hp;intro w hp;(try dsimp only [List.set] at hp)))|((with_reducible refine gen_id ?_);first|(apply gen_build;exact rfl;exact rfl)|(apply gen_len;exact rfl;exact rfl;assumption)|(apply gen_min;exact rfl;exact rfl;exact rfl)|(apply gen_max;exact rfl;exact rfl;exact rfl)|(apply gen_ix;exact rfl;exact rfl;exact rfl;exact rfl;omega)|(apply gen_ixa;exact rfl;exact rfl;exact rfl;exact rfl;omega))|((with_reducible refine fk_id ?_);(refine fk_mk ?_ ?_))|((with_reducible refine rd_id ?_);first|(apply rd_len;exact rfl;exact rfl;assumption)|(apply rd_ix;exact rfl;exact rfl;exact rfl;exact rfl;omega)))<;>(conv=>whnf)))
   refine cl_eq (hof hp.chg nb (by omega)) rfl rfl ?_
   rintro e w ⟨O2,hO2,hO2l,rfl,hm⟩
   replace hp:=hp.add hm
   replace hm:=hm.chg
   refine ⟨_,rfl,?_⟩
   refine cn hm ?_
   clear hm
   rw [Int.toNat_natCast] at hO1 hO2
   obtain ⟨hle,hall⟩:=hsub hO1 hO2 hp (by simp) (by simp)
   have hz1:=hz hO1
   have hz2:=hz hO2
   have hat2:=(subRs_at (hp.ok (star (subRs O2)) (by simp))).row
   ((conv=>whnf);repeat' ((first|((with_reducible refine br_id ?_);first|(with_reducible refine br_t ?_)|(with_reducible refine br_f ?_)|(with_reducible refine br_not ?_)|((with_reducible refine br_dec (fun hx=>?_) (fun hx=>?_))<;>(try (exfalso;first|omega|contradiction)))|((with_reducible refine br_eq (fun hx=>?_) (fun hx=>?_))<;>(try (exfalso;first|omega|contradiction))))|((with_reducible refine gen_id ?_);first|((refine gen_cuth rfl el_sub O2 rfl hat2 rfl (h:=O1.l.length) rfl hle ?_))|(apply gen_len;exact rfl;exact rfl;assumption))|((with_reducible refine cl_id ?_);first|((refine cl_eq (hall) rfl rfl ?_;rintro e w ⟨rfl,hcc⟩;replace hp:=hp.call0 hcc;refine ⟨_,rfl,?_⟩))|((refine cl_eq ((alive43_any _)) rfl rfl ?_;rintro e w ⟨rfl,hcc⟩;replace hp:=hp.call0 hcc;refine ⟨_,rfl,?_⟩))))<;>(conv=>whnf)))
   all_goals first
    |(exfalso;omega)
    |(exfalso;exact hx rfl)
    |exact ps_val (v':= .bool true) rfl ⟨rfl,hp.chg⟩
 |true=>
  have hgo:rt=true∧x.halt=0:=by
   rw [hokd] at hok
   cases rt with
   |false=>cases hok
   |true=>exact ⟨rfl,of_decide_eq_true hok⟩
  obtain ⟨rfl,hh⟩:=hgo
  have hne:(true !=(x.halt==0))=false:=by rw [hh];rfl
  refine calls_x (args:= [_,_,_]) tabOk Tryz.func8 Tryz.ntmps8 Tryz.results8 rfl (Nat.le_of_ble_eq_true rfl) ?_
  ((conv=>whnf);repeat' ((first|((with_reducible refine br_id ?_);first|(with_reducible refine br_t ?_)|(with_reducible refine br_not ?_))|((with_reducible refine ldn_id ?_);(apply lda_hs hp;(focus repeat' constructor);exact rfl))|((with_reducible refine al_id ?_);(refine al_cel hp ?_;clear hp;intro bb w hp))|((with_reducible refine cl_id ?_);((refine cl_eq ((hfw hp.chg)) rfl rfl ?_;rintro e w ⟨rfl,hcc⟩;replace hp:=hp.call0 hcc;refine ⟨_,rfl,?_⟩))))<;>(conv=>whnf)))
  refine cl_eq (hqu hp.chg) rfl rfl ?_
  rintro e w ⟨q,hq1,_,rfl,hc⟩
  replace hp:=hp.call0 hc
  clear hc
  refine ⟨_,rfl,?_⟩
  have hqn:=q.toNat_lt
  obtain ⟨g1,g2,g3,g4⟩:=quietX hok (hq1 rfl)
  clear hq1 hqu
  ((conv=>whnf);repeat' ((first|((with_reducible refine br_id ?_);first|((with_reducible refine br_0 hne ?_))|(with_reducible refine br_t ?_)|(with_reducible refine br_f ?_)|(with_reducible refine br_not ?_))|((with_reducible refine ar_id ?_);(refine ar_i64 (by omega) ?_))|((with_reducible refine ld_id ?_);(apply ld_hs hp;(focus repeat' constructor);exact rfl))|((with_reducible refine ldn_id ?_);(apply lda_hs hp;(focus repeat' constructor);exact rfl))|((with_reducible refine gen_id ?_);first|((refine gen_min rfl rfl rfl ?_;rw [hmin]))|((refine gen_max rfl rfl rfl ?_;rw [hmax])))|((with_reducible refine cl_id ?_);((refine cl_eq ((hrr hp.chg)) rfl rfl ?_;rintro e w ⟨rfl,hcc⟩;replace hp:=hp.call0 hcc;refine ⟨_,rfl,?_⟩))))<;>(conv=>whnf)))
  refine dr_autos [] 1000 tabOk (by kernel_rfl) (by decide+kernel) ?_
  replace hp:=hp.drew
  ((conv=>whnf);repeat' (((with_reducible refine ldn_id ?_);(apply lda_hs hp;(focus repeat' constructor);exact rfl))<;>(conv=>whnf)))
  refine cl_eq (hof hp.chg na (by omega)) rfl rfl ?_
  rintro e w ⟨O1,hO1,hO1l,rfl,hm⟩
  replace hp:=hp.add hm
  replace hm:=hm.chg
  refine ⟨_,rfl,?_⟩
  refine cn hm ?_
  clear hm
  ((conv=>whnf);repeat' ((first|((with_reducible refine br_id ?_);first|(with_reducible refine br_t ?_)|(with_reducible refine br_f ?_)|(with_reducible refine br_not ?_)|((with_reducible refine br_dec (fun hx=>?_) (fun hx=>?_))<;>(try (exfalso;first|omega|contradiction)))|((with_reducible refine br_eq (fun hx=>?_) (fun hx=>?_))<;>(try (exfalso;first|omega|contradiction)))|((with_reducible refine br_ne (fun hx=>?_) (fun hx=>?_))<;>(try (exfalso;first|omega|contradiction)))|((with_reducible refine br_s (fun hx=>?_) (fun hx=>?_))<;>(try (exfalso;first|omega|contradiction))))|((with_reducible refine ar_id ?_);first|(refine ar_i64 (by omega) ?_)|(refine ar_u32 (by omega) ?_)|(refine ar_u64 (by omega) ?_)|(refine ar_u8 (by omega) ?_))|((with_reducible refine cn_id ?_);first|(refine cn rfl ?_)|(refine cn ‹_› ?_)|(refine cn (by omega) ?_)|(refine cn (Chg.refl _ _) ?_))|((with_reducible refine ld_id ?_);first|(apply ld_hs hp;(focus repeat' constructor);exact rfl)|(refine ld_of ‹_› ?_))|((with_reducible refine ldn_id ?_);first|(apply lda_hs hp;(focus repeat' constructor);exact rfl)|(apply ldn_hs hp;(focus repeat' constructor);exact rfl;exact rfl))|((with_reducible refine al_id ?_);(refine al_cel hp ?_;clear hp;intro bb w hp))|((with_reducible refine st_id ?_);first|(apply sta_hs hp;(focus repeat' constructor);exact rfl;exact rfl;clear hp;intro w hp;(try dsimp only [List.set] at hp))|(apply st_hs hp;(focus repeat' constructor);exact rfl;exact rfl;clear hp;intro w hp;(try dsimp only [List.set] at hp)))|((with_reducible refine gen_id ?_);first|(apply gen_build;exact rfl;exact rfl)|(apply gen_len;exact rfl;exact rfl;assumption)|(apply gen_min;exact rfl;exact rfl;exact rfl)|(apply gen_max;exact rfl;exact rfl;exact rfl)|(apply gen_ix;exact rfl;exact rfl;exact rfl;exact rfl;omega)|(apply gen_ixa;exact rfl;exact rfl;exact rfl;exact rfl;omega))|((with_reducible refine fk_id ?_);(refine fk_mk ?_ ?_))|((with_reducible refine rd_id ?_);first|(apply rd_len;exact rfl;exact rfl;assumption)|(apply rd_ix;exact rfl;exact rfl;exact rfl;exact rfl;omega)))<;>(conv=>whnf)))
  refine cl_eq (hof hp.chg nb (by omega)) rfl rfl ?_
  rintro e w ⟨O2,hO2,hO2l,rfl,hm⟩
  replace hp:=hp.add hm
  replace hm:=hm.chg
  refine ⟨_,rfl,?_⟩
  refine cn hm ?_
  clear hm
  rw [Int.toNat_natCast] at hO1 hO2
  obtain ⟨hle,hall⟩:=hsub hO1 hO2 hp (by simp) (by simp)
  have hat2:=(subRs_at (hp.ok (star (subRs O2)) (by simp))).row
  obtain ⟨n1,hn1⟩:∃n1:Nat,q.toNat=x.ht.toNat+n1:=⟨q.toNat - x.ht.toNat,by omega⟩
  have ar_q:∀{f:Int→Prop},f (n1:Int)→Ar .u32 ((q.toNat:Int) - (x.ht.toNat:Int)) f:=fun {f} hff=>ar_u32 (by omega) (by rw [show (q.toNat:Int) - (x.ht.toNat:Int)=(n1:Int) by omega];exact hff)
  ((conv=>whnf);repeat' ((first|((with_reducible refine br_id ?_);first|(with_reducible refine br_t ?_)|(with_reducible refine br_f ?_)|(with_reducible refine br_not ?_)|((with_reducible refine br_dec (fun hx=>?_) (fun hx=>?_))<;>(try (exfalso;first|omega|contradiction))))|((with_reducible refine ar_id ?_);first|((refine ar_q ?_))|(refine ar_i64 (by omega) ?_))|((with_reducible refine ld_id ?_);(apply ld_hs hp;(focus repeat' constructor);exact rfl))|((with_reducible refine ldn_id ?_);(apply lda_hs hp;(focus repeat' constructor);exact rfl))|((with_reducible refine gen_id ?_);first|((refine gen_cuth rfl el_sub O2 rfl hat2 rfl (h:=O1.l.length) rfl hle ?_))|(apply gen_len;exact rfl;exact rfl;assumption))|((with_reducible refine cl_id ?_);((refine cl_eq (hall) rfl rfl ?_;rintro e w ⟨rfl,hcc⟩;replace hp:=hp.call0 hcc;refine ⟨_,rfl,?_⟩))))<;>(conv=>whnf)))
  all_goals first
   |(exfalso;omega)
   |(exfalso;exact hx rfl)
   |skip
  refine cl_eq (hof hp.chg n1 (by omega)) rfl rfl ?_
  rintro e w ⟨O3,hO3,hO3l,rfl,hm⟩
  replace hp:=hp.add hm
  clear hm hall hat2
  refine ⟨_,rfl,?_⟩
  ((conv=>whnf);repeat' ((first|((with_reducible refine ar_id ?_);first|((refine ar_q ?_))|((refine ar_n (n1+10000) (by omega) (by omega) ?_))|(refine ar_i64 (by omega) ?_))|((with_reducible refine ld_id ?_);(apply ld_hs hp;(focus repeat' constructor);exact rfl))|((with_reducible refine ldn_id ?_);(apply lda_hs hp;(focus repeat' constructor);exact rfl)))<;>(conv=>whnf)))
  refine cl_eq (hof hp.chg (n1+10000) (by omega)) rfl rfl ?_
  rintro e w ⟨O4,hO4,hO4l,rfl,hm⟩
  replace hp:=hp.add hm
  clear hm
  refine ⟨_,rfl,?_⟩
  rw [Int.toNat_natCast,g2 _ (by omega)] at hO3 hO4
  have l3:O3.l.length=(planX x).length:=by have:=congrArg List.length hO3;rwa [List.length_map,List.length_map] at this
  have l4:O4.l.length=(planX x).length:=by have:=congrArg List.length hO4;rwa [List.length_map,List.length_map] at this
  by_cases hqq:q.toNat=x.ht.toNat
  ·have hl0:(planX x).length=0:=by rw [g3 hqq];rfl
   ((conv=>whnf);repeat' ((first|((with_reducible refine br_id ?_);first|(with_reducible refine br_t ?_)|(with_reducible refine br_f ?_)|((with_reducible refine br_dec (fun hx=>?_) (fun hx=>?_))<;>(try (exfalso;first|omega|contradiction)))|((with_reducible refine br_eq (fun hx=>?_) (fun hx=>?_))<;>(try (exfalso;first|omega|contradiction)))|((with_reducible refine br_ne (fun hx=>?_) (fun hx=>?_))<;>(try (exfalso;first|omega|contradiction))))|((with_reducible refine ld_id ?_);(apply ld_hs hp;(focus repeat' constructor);exact rfl))|((with_reducible refine gen_id ?_);(apply gen_len;exact rfl;exact rfl;assumption))|((with_reducible refine cl_id ?_);((refine cl_eq ((alive43_any _)) rfl rfl ?_;rintro e w ⟨rfl,hcc⟩;replace hp:=hp.call0 hcc;refine ⟨_,rfl,?_⟩))))<;>(conv=>whnf)))
   all_goals first
    |(exfalso;omega)
    |(exfalso;exact hx rfl)
    |exact ps_val (v':= .bool true) rfl ⟨rfl,hp.chg⟩
  ·obtain ⟨st,hs1,hs2⟩:=g4 (by omega)
   have hpos:0 < (planX x).length:=List.length_pos_of_mem (List.mem_of_getLast? hs1)
   have hsl3:=(subRs_at (hp.ok (star (subRs O3)) (by simp))).row
   obtain ⟨m,hm⟩:∃m,O3.l.length=m+1:=⟨O3.l.length - 1,by omega⟩
   obtain ⟨b3,o3,s,hA3,hb3,hr3,hss⟩:=hsl3.has (i:=m) (by omega)
   have hsh:s.height.toNat=q.toNat:=by
    have h1:(O3.l.map Sub.p)[m]? =some s.p:=by rw [List.getElem?_map,hss];rfl
    rw [hO3,List.getElem?_map] at h1
    rw [List.getLast?_eq_getElem?,show (planX x).length - 1=m by omega] at hs1
    rw [hs1] at h1
    have h2:st.sub=s.p:=Option.some.inj h1
    rw [h2] at hs2
    exact hs2
   have hp9:=Hp.start (S:=N0) w
   rw [hm] at l3
   ((conv=>whnf);repeat' ((first|((with_reducible refine br_id ?_);first|(with_reducible refine br_t ?_)|(with_reducible refine br_f ?_)|((with_reducible refine br_dec (fun hx=>?_) (fun hx=>?_))<;>(try (exfalso;first|omega|contradiction)))|((with_reducible refine br_eq (fun hx=>?_) (fun hx=>?_))<;>(try (exfalso;first|omega|contradiction)))|((with_reducible refine br_ne (fun hx=>?_) (fun hx=>?_))<;>(try (exfalso;first|omega|contradiction))))|((with_reducible refine ar_id ?_);((refine ar_n (m) (by omega) (by omega) ?_)))|((with_reducible refine ld_id ?_);first|((refine ld_row hp9 (fun _ h=>h.elim) hb3 hr3 m 34 rfl hss rfl ?_))|(apply ld_hs hp;(focus repeat' constructor);exact rfl))|((with_reducible refine gen_id ?_);first|((refine gen_ixs rfl rfl hA3 rfl rfl (by omega) ?_))|(apply gen_len;exact rfl;exact rfl;assumption))|((with_reducible refine cl_id ?_);((refine cl_eq ((alive43_any _)) rfl rfl ?_;rintro e w ⟨rfl,hcc⟩;replace hp:=hp.call0 hcc;refine ⟨_,rfl,?_⟩))))<;>(conv=>whnf)))
   all_goals first
    |(exfalso;omega)
    |(exfalso;exact hx rfl)
    |exact ps_val (v':= .bool true) rfl ⟨rfl,hp.chg⟩
end Go.Proofs.YteabebmlclgakaaGreat
