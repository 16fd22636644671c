/- MRespondEvicted31: Lod, Send4, RespEv. -/
import Derived.Test.YteabebmlclgakaaGreatMRespondEvicted27
import Derived.Test.YteabebmlclgakaaGreatMRespondEvicted28
import Derived.Test.YteabebmlclgakaaGreatMRespondEvicted30
set_option linter.unusedSimpArgs false
set_option linter.unusedVariables false
/- Lod: what a loaded book has, as its parts; few states. Of states that are few. -/
namespace Go.Proofs.YteabebmlclgakaaGreat
open Go.RowKit
set_option maxRecDepth 100000
set_option maxHeartbeats 4000000
theorem rightS_at {x:Sta} (h:rightS x=true):soundC x.cfg=true∧haltE x.halt=true∧chS x.cfg.dep x.ht x.win.l=true∧sesS x.next x.cfg.ses x.ses.l=true∧blobS x.ses.l (x.blobs.l.map Blob.p)=true∧jobS x.ht x.jobs.l=true:=by
 unfold rightS at h
 simp only [Bool.and_eq_true] at h
 exact ⟨h.1,h.2.1,h.2.2.1,h.2.2.2.1,h.2.2.2.2.1,h.2.2.2.2.2⟩
theorem lod_chn {x:Sta} {W:Sl Blk} (h:rightS x=true) (hW:W.l.map Blk.p=x.win.l.map Blk.p):ChnI ⟨x.cfg.dep,x.ht,W⟩:=by
 obtain ⟨hq1,_,hch,_⟩:=rightS_at h
 have hWl:W.l.length=x.win.l.length:=by have:=congrArg List.length hW;rwa [List.length_map,List.length_map] at this
 unfold chS at hch
 rw [Bool.and_eq_true,decide_eq_true_eq] at hch
 obtain ⟨⟨d1,d2,hl1,hl2⟩,hall⟩:=hch
 refine ⟨⟨d1,d2⟩,by show (W.l.length:Int)≤_;rw [hWl];exact hl1,by show W.l.length≤_;rw [hWl];exact hl2,fun c hc=>?_⟩
 have h1:c.p∈x.win.l.map Blk.p:=hW▸List.mem_map_of_mem hc
 obtain ⟨c',hc',he⟩:=List.mem_map.1 h1
 have h3:c'.tx.l=c.tx.l:=congrArg BlkP.txs he
 rw [←h3]
 obtain ⟨k,hk⟩:=List.getElem?_of_mem hc'
 exact rightB_nd (winAt_right (allR_at hall (List.getElem?_eq_some_iff.1 hk).1) hk)
theorem lod_all {S:Nat→Prop} {w0 w:World} {bk:Nat} {X:Bk} {C:Chn} {Y:Snx} {ms:Nat} {room:Int} {tl:List (UInt32×Sess)} {g:Shf} {mj:Nat} {ord:Sl Key} {l:List (Key×EntB)} {c:Res} (h:Hp S w0 w [star (lodRs bk X C Y ms room tl g mj ord l),c]):
  Hp S w0 w [star (allRs bk X C mj ord l),tabR X.bs ms room tl,star (shRs X.bh g),c]:=by
 have h1:Hp S w0 w [bkR bk X,star (jtRs X.bj mj ord l),star (chlRs X.bc C),tabR X.bs ms room tl,star (shRs X.bh g),c]:=h.unfold.pick [0,5,1,3,4,6] (by decide) rfl
 exact (h1.fold 2).fold 2
theorem due_live {ord:List Key} {l:List (Key×EntB)} (hI:JtI ord l) {ht:UInt32} {step:Int} {j:Job} {L:List (Key×EntB)} (hL:L.map (fun p=>p.2.job.p)=sentP ht step (l.map fun p=>p.2.job.p)) (hj:j.p∈L.map (fun p=>p.2.job.p)):j.mined.toNat≠0∨(tierAt j.height.toNat ht.toNat step j.pay.l.length:Int)=j.live:=by
 rw [hL] at hj
 unfold sentP at hj
 obtain ⟨k,hk,hke⟩:=List.mem_map.1 hj
 obtain ⟨p,hp,hpe⟩:=List.mem_map.1 hk
 have hd:=dueP_sent k ht step
 rw [hke] at hd
 have hr:=rightJ_pay (hI.right p hp)
 have h1:=(rightP_at hr).1
 have hlen:j.p.tiers.length=p.2.job.pay.l.length:=by
  rw [←hke,←hpe]
  unfold sentJ
  split<;>exact List.length_map ..
 have hl2:j.p.tiers.length=j.pay.l.length:=List.length_map ..
 unfold dueP at hd
 split at hd
 ·rename_i hc
  rw [hl2] at hc
  rcases hc with hc|hc|hc
  ·exact .inl hc
  ·omega
  ·exact .inr hc
 ·cases hd
end Go.Proofs.YteabebmlclgakaaGreat
/- Send4: an eviction's keys, and what goes out behind it, one by one. No program in sight. -/
namespace Go.Proofs.YteabebmlclgakaaGreat
open Go.RowKit
set_option maxRecDepth 100000
set_option maxHeartbeats 4000000
theorem evict_keys {ord:List Key} {l:List (Key×EntB)} (hI:JtI ord l) {R:List Job} (hR:R.map Job.p=l.map fun p=>p.2.job.p) (id:Id):(R.filter (evJ id)).map (·.key)=thoK (evQ id) l:=by
 have h1:(R.filter (evJ id)).map (·.key)=((R.map Job.p).filter (evP id)).map (·.key):=by
  rw [List.filter_map,List.map_map]
  have:(R.filter (evJ id))=R.filter (evP id∘Job.p):=List.filter_congr fun j _=>evJ_p id j
  rw [this]
  rfl
 have h2:thoK (evQ id) l=((l.map fun p=>p.2.job.p).filter (evP id)).map (·.key):=by
  unfold thoK
  rw [List.filter_map,List.map_map]
  have:(l.filter fun p=>evQ id p.2)=l.filter (evP id∘fun p=>p.2.job.p):=List.filter_congr fun a ha=>evQ_p hI id ha
  rw [this]
  exact List.map_congr_left fun a ha=>(hI.key a (List.mem_filter.1 ha).1).symm
 rw [h1,hR,h2]
theorem out_at {ord:List Key} {l:List (Key×EntB)} (hI:JtI ord l) {ht:UInt32} {id:Id} {O:List Sub} (hO:O.map Sub.p=(l.filter fun a=>evQ id a.2).map (outE ht)) {i:Nat} {z:Sub} (hz:O[i]? =some z):(thoK (evQ id) l)[i]? =some z.key∧shaV z.tx.l=id∧z.height=ht∧z.tx.l.length≤64:=by
 have h1:((l.filter fun a=>evQ id a.2).map (outE ht))[i]? =some z.p:=by rw [←hO,List.getElem?_map,hz];rfl
 rw [List.getElem?_map] at h1
 obtain ⟨a,ha,hae⟩:=Option.map_eq_some_iff.1 h1
 have hm:=List.mem_filter.1 (List.mem_of_getElem? ha)
 have he:evP id a.2.job.p=true:=by rw [←evQ_p hI id hm.1];exact hm.2
 have hk:a.1=z.key:=congrArg SubP.key hae
 have hb:((a.2.job.p.tiers[a.2.job.live.toNat]?).getD (0, [])).2=z.tx.l:=congrArg SubP.bytes hae
 have hh:ht=z.height:=congrArg SubP.height hae
 refine ⟨?_,?_,hh.symm,?_⟩
 ·unfold thoK
  rw [List.getElem?_map,ha,←hk]
  rfl
 ·rw [←hb]
  unfold evP at he
  have hl:a.2.job.p.live=a.2.job.live:=rfl
  rw [hl] at he
  cases ht':a.2.job.p.tiers[a.2.job.live.toNat]? with
  |none=>rw [ht'] at he;cases he
  |some t=>
   rw [ht'] at he
   rw [Bool.and_eq_true,decide_eq_true_eq,decide_eq_true_eq] at he
   exact he.2
 ·rw [←hb]
  cases ht':a.2.job.p.tiers[a.2.job.live.toNat]? with
  |none=>simp
  |some t=>
   have h2:t∈a.2.job.pay.l.map tk:=List.mem_of_getElem? ht'
   obtain ⟨u,hu,hue⟩:=List.mem_map.1 h2
   have h3:=((rightP_at (rightJ_pay (hI.right a hm.1))).2.2 u hu).2
   rw [←hue]
   exact h3
theorem job_in {ord:List Key} {l:List (Key×EntB)} (hI:JtI ord l) {j:Job} (hj:j.p∈l.map (fun p=>p.2.job.p)):rightJ j=true:=by
 obtain ⟨p,hp,hpe⟩:=List.mem_map.1 hj
 have hr:=hI.right p hp
 have ht:p.2.job.pay.l.map tk=j.pay.l.map tk:=congrArg JobP.tiers hpe
 have h1:rightP p.2.job.pay=rightP j.pay:=rightP_congr ht
 have h2:p.2.job.pay.l.length=j.pay.l.length:=by have:=congrArg List.length ht;simpa using this
 have h3:p.2.job.height=j.height:=congrArg JobP.height hpe
 have h4:p.2.job.mined=j.mined:=congrArg JobP.mined hpe
 have h5:p.2.job.live=j.live:=congrArg JobP.live hpe
 unfold rightJ at hr ⊢
 rw [h1,h2,h3,h4,h5] at hr
 exact hr
end Go.Proofs.YteabebmlclgakaaGreat
/- RespEv: what is evicted is sent out again: the law. Of states of a bounded bulk. -/
namespace Go.Proofs.YteabebmlclgakaaGreat
open Go.RowKit
set_option maxRecDepth 100000
set_option maxHeartbeats 4000000
theorem respEv_any {B:Nat} {w0:World} {x:Sta} (hs:StaAt B w0 x) (hb:StaB 1048576 x) (hBw:B≤w0.heap.size) (hlv:∀j∈x.jobs.l, -9223372036854775808≤j.live∧j.live≤9223372036854775807) (hst: -9223372036854775808≤x.cfg.stp∧x.cfg.stp≤9223372036854775807) (at_:UInt8):Calls Tryz.prog 4 #[x.v,u8 at_] w0 fun e w'=>e= .returned (.bool true)∧Chg N0 w0 w':=by
 have hp:=Hp.start (S:=N0) w0
 have hB:∀b,N0 b→B≤b:=fun _ hh=>hh.elim
 have us:=Tryz.underlying60
 have u4:=Tryz.underlying29
 have u1:=Tryz.underlying45
 have uk:=Tryz.underlying64
 have up:=Tryz.underlying57
 have hfw:=fun {w:World} (hc:Chg N0 w0 w)=>few31_any (hs.keep hc hB) hb
 cases hq:fewS x with
 |false=>
  rw [hq] at hfw
  refine calls_x (args:= [_,_]) tabOk Tryz.func4 Tryz.ntmps4 Tryz.results4 rfl (Nat.le_of_ble_eq_true rfl) ?_
  ((conv=>whnf);repeat' ((first|((with_reducible refine br_id ?_);first|(with_reducible refine br_t ?_)|(with_reducible refine br_f ?_)|(with_reducible refine br_not ?_))|((with_reducible refine ldn_id ?_);(apply lda_hs hp;(focus repeat' constructor);exact rfl))|((with_reducible refine al_id ?_);(refine al_cel hp ?_;clear hp;intro bb w hp))|((with_reducible refine cl_id ?_);first|((refine cl_eq ((hfw hp.chg)) rfl rfl ?_;rintro e w ⟨rfl,hcc⟩;replace hp:=hp.call0 hcc;refine ⟨_,rfl,?_⟩))|((refine cl_eq ((alive34_any _)) rfl rfl ?_;rintro e w ⟨rfl,hcc⟩;replace hp:=hp.call0 hcc;refine ⟨_,rfl,?_⟩))))<;>(conv=>whnf)))
  exact ps_val (v':= .bool true) rfl ⟨rfl,hp.chg⟩
 |true=>
 rw [hq] at hfw
 have hf:=fewS_at hq
 have hrr:=fun {w:World} (hc:Chg N0 w0 w)=>rright31_any (hs.keep hc hB) hf hlv
 cases hR:rightS x with
 |false=>
  rw [hR] at hrr
  refine calls_x (args:= [_,_]) tabOk Tryz.func4 Tryz.ntmps4 Tryz.results4 rfl (Nat.le_of_ble_eq_true rfl) ?_
  ((conv=>whnf);repeat' ((first|((with_reducible refine br_id ?_);first|(with_reducible refine br_t ?_)|(with_reducible refine br_f ?_)|(with_reducible refine br_not ?_))|((with_reducible refine ldn_id ?_);(apply lda_hs hp;(focus repeat' constructor);exact rfl))|((with_reducible refine al_id ?_);(refine al_cel hp ?_;clear hp;intro bb w hp))|((with_reducible refine cl_id ?_);first|((refine cl_eq ((hfw hp.chg)) rfl rfl ?_;rintro e w ⟨rfl,hcc⟩;replace hp:=hp.call0 hcc;refine ⟨_,rfl,?_⟩))|((refine cl_eq ((hrr hp.chg)) rfl rfl ?_;rintro e w ⟨rfl,hcc⟩;replace hp:=hp.call0 hcc;refine ⟨_,rfl,?_⟩))|((refine cl_eq ((alive34_any _)) rfl rfl ?_;rintro e w ⟨rfl,hcc⟩;replace hp:=hp.call0 hcc;refine ⟨_,rfl,?_⟩))))<;>(conv=>whnf)))
  exact ps_val (v':= .bool true) rfl ⟨rfl,hp.chg⟩
 |true=>
 rw [hR] at hrr
 by_cases hh:x.halt=0
 rotate_left
 ·refine calls_x (args:= [_,_]) tabOk Tryz.func4 Tryz.ntmps4 Tryz.results4 rfl (Nat.le_of_ble_eq_true rfl) ?_
  ((conv=>whnf);repeat' ((first|((with_reducible refine br_id ?_);first|(with_reducible refine br_t ?_)|(with_reducible refine br_f ?_)|(with_reducible refine br_not ?_)|((with_reducible refine br_ne (fun hx=>?_) (fun hx=>?_))<;>(try (exfalso;first|omega|contradiction))))|((with_reducible refine ld_id ?_);(apply ld_hs hp;(focus repeat' constructor);exact rfl))|((with_reducible refine ldn_id ?_);(apply lda_hs hp;(focus repeat' constructor);exact rfl))|((with_reducible refine al_id ?_);(refine al_cel hp ?_;clear hp;intro bb w hp))|((with_reducible refine cl_id ?_);first|((refine cl_eq ((hfw hp.chg)) rfl rfl ?_;rintro e w ⟨rfl,hcc⟩;replace hp:=hp.call0 hcc;refine ⟨_,rfl,?_⟩))|((refine cl_eq ((hrr hp.chg)) rfl rfl ?_;rintro e w ⟨rfl,hcc⟩;replace hp:=hp.call0 hcc;refine ⟨_,rfl,?_⟩))|((refine cl_eq ((alive34_any _)) rfl rfl ?_;rintro e w ⟨rfl,hcc⟩;replace hp:=hp.call0 hcc;refine ⟨_,rfl,?_⟩))))<;>(conv=>whnf)))
  all_goals first
   |(exfalso;omega)
   |exact ps_val (v':= .bool true) rfl ⟨rfl,hp.chg⟩
 have hat8:=at_.toNat_lt
 refine calls_x (args:= [_,_]) tabOk Tryz.func4 Tryz.ntmps4 Tryz.results4 rfl (Nat.le_of_ble_eq_true rfl) ?_
 ((conv=>whnf);repeat' ((first|((with_reducible refine br_id ?_);first|(with_reducible refine br_t ?_)|(with_reducible refine br_f ?_)|(with_reducible refine br_not ?_)|((with_reducible refine br_ne (fun hx=>?_) (fun hx=>?_))<;>(try (exfalso;first|omega|contradiction))))|((with_reducible refine ld_id ?_);(apply ld_hs hp;(focus repeat' constructor);exact rfl))|((with_reducible refine ldn_id ?_);(apply lda_hs hp;(focus repeat' constructor);exact rfl))|((with_reducible refine al_id ?_);(refine al_cel hp ?_;clear hp;intro bb w hp))|((with_reducible refine cl_id ?_);first|((refine cl_eq ((hfw hp.chg)) rfl rfl ?_;rintro e w ⟨rfl,hcc⟩;replace hp:=hp.call0 hcc;refine ⟨_,rfl,?_⟩))|((refine cl_eq ((hrr hp.chg)) rfl rfl ?_;rintro e w ⟨rfl,hcc⟩;replace hp:=hp.call0 hcc;refine ⟨_,rfl,?_⟩))))<;>(conv=>whnf)))
 all_goals first
  |(exfalso;omega)
  |skip
 refine cl_eq (bload_any (hs.keep hp.chg hB) (Nat.le_trans hBw hp.chg.size) hf hlv) rfl rfl ?_
 rintro e w (⟨hR',rfl,hcc⟩|⟨_,bk,X,W,Y,ms,g,mj,ord,l,hL,rfl,hm⟩)
 ·rw [hR] at hR'
  cases hR'
 replace hp:=hp.add hm
 clear hm hrr
 refine ⟨_,rfl,?_⟩
 obtain ⟨b2,hb2⟩:∃b,b=bb:=⟨_,rfl⟩
 subst hb2
 have hC:=lod_chn hR hL.win
 have hJI:=hL.jt
 have hps:=hL.jobs
 have f4:=hf.jobs
 have hll:l.length≤600:=by
  have:=congrArg List.length hps
  rw [List.length_map,List.length_map] at this
  omega
 have hst2: -9223372036854775808≤X.cfg.stp∧X.cfg.stp≤9223372036854775807:=by rw [hL.cfg];exact hst
 have hp0:Hp N0 w0 w [star (allRs bk X ⟨x.cfg.dep,x.ht,W⟩ mj ord l),cel b2 31 x.c.toArray]:=(lod_all hp).pick [0,3] (by decide) rfl
 clear hp
 have hp:=hp0
 clear hp0
 have hXh:X.halt=0:=hL.halt.trans hh
 have hXs:X.cfg.stp=x.cfg.stp:=by rw [hL.cfg]
 ((conv=>whnf);repeat' (((with_reducible refine br_id ?_);(with_reducible refine br_f ?_))<;>(conv=>whnf)))
 refine cl_eq (all_any (hp.get (j:=0) rfl) hC hJI (by omega) hst2 hXh) rfl rfl ?_
 rintro e w ⟨O,_,rfl,hm⟩
 replace hp:=hp.via (j:=0) rfl hm
 clear hm
 dsimp only [List.set] at hp
 refine ⟨_,rfl,?_⟩
 obtain ⟨l1,hl1⟩:∃l1,l.map (sentE (Chn.mk x.cfg.dep x.ht W).ht X.cfg.stp)=l1:=⟨_,rfl⟩
 have hJ1:JtI ord.l l1:=by rw [←hl1];exact sent_jti hJI _ _
 have hp1:l1.map (fun p=>p.2.job.p)=sentP x.ht x.cfg.stp (l.map fun p=>p.2.job.p):=by rw [←hl1,sent_ps,hXs]
 have hll1:l1.length≤600:=by rw [←hl1,List.length_map];exact hll
 have hd1:∀a∈l1,dueP a.2.job.p x.ht x.cfg.stp=none:=fun a ha=>by
  have:a.2.job.p∈l1.map (fun p=>p.2.job.p):=List.mem_map_of_mem ha
  rw [hp1] at this
  obtain ⟨k,_,hk⟩:=List.mem_map.1 this
  rw [←hk]
  exact dueP_sent _ _ _
 rw [hl1] at hp
 clear hl1
 have hp0:Hp N0 w0 w [star (bjRs bk X mj ord l1),star (chlRs X.bc ⟨x.cfg.dep,x.ht,W⟩),cel b2 31 x.c.toArray]:=hp.unfold.pick [0,1,3] (by decide) rfl
 clear hp
 have hp:=hp0
 clear hp0
 ((conv=>whnf);repeat' ((first|((with_reducible refine br_id ?_);first|(with_reducible refine br_t ?_)|(with_reducible refine br_f ?_)|(with_reducible refine br_not ?_)|((with_reducible refine br_dec (fun hx=>?_) (fun hx=>?_))<;>(try (exfalso;first|omega|contradiction)))|((with_reducible refine br_eq (fun hx=>?_) (fun hx=>?_))<;>(try (exfalso;first|omega|contradiction)))|((with_reducible refine br_ne (fun hx=>?_) (fun hx=>?_))<;>(try (exfalso;first|omega|contradiction)))|((with_reducible refine br_s (fun hx=>?_) (fun hx=>?_))<;>(try (exfalso;first|omega|contradiction))))|((with_reducible refine ar_id ?_);first|(refine ar_i64 (by omega) ?_)|(refine ar_u32 (by omega) ?_)|(refine ar_u64 (by omega) ?_)|(refine ar_u8 (by omega) ?_))|((with_reducible refine cn_id ?_);first|(refine cn rfl ?_)|(refine cn ‹_› ?_)|(refine cn (by omega) ?_)|(refine cn (Chg.refl _ _) ?_))|((with_reducible refine ld_id ?_);first|(apply ld_hs hp;(focus repeat' constructor);exact rfl)|(refine ld_of ‹_› ?_))|((with_reducible refine ldn_id ?_);first|(apply lda_hs hp;(focus repeat' constructor);exact rfl)|(apply ldn_hs hp;(focus repeat' constructor);exact rfl;exact rfl))|((with_reducible refine al_id ?_);(refine al_cel hp ?_;clear hp;intro bb w hp))|((with_reducible refine st_id ?_);first|(apply sta_hs hp;(focus repeat' constructor);exact rfl;exact rfl;clear hp;intro w hp;(try dsimp only [List.set] at hp))|(apply st_hs hp;(focus repeat' constructor);exact rfl;exact rfl;clear hp;intro w hp;(try dsimp only [List.set] at hp)))|((with_reducible refine gen_id ?_);first|(apply gen_build;exact rfl;exact rfl)|(apply gen_len;exact rfl;exact rfl;assumption)|(apply gen_min;exact rfl;exact rfl;exact rfl)|(apply gen_max;exact rfl;exact rfl;exact rfl)|(apply gen_ix;exact rfl;exact rfl;exact rfl;exact rfl;omega)|(apply gen_ixa;exact rfl;exact rfl;exact rfl;exact rfl;omega))|((with_reducible refine dr_id ?_);first|(refine dr_auto tabOk (by kernel_rfl) (by decide+kernel) ?_;(try replace hp:=hp.drew))|(refine dr_autog tabOk (by kernel_rfl) (by decide+kernel) ?_;(try replace hp:=hp.drew))|(refine dr_autot tabOk (by kernel_rfl) (by decide+kernel) ?_;(try replace hp:=hp.drew)))|((with_reducible refine fk_id ?_);(refine fk_mk ?_ ?_))|((with_reducible refine rd_id ?_);first|(apply rd_len;exact rfl;exact rfl;assumption)|(apply rd_ix;exact rfl;exact rfl;exact rfl;exact rfl;omega)))<;>(conv=>whnf)))
 obtain ⟨g1,g2⟩:=bjRs_at (hp.get (j:=0) rfl)
 refine cl_eq (bjobs_any g1 g2 hJ1 (by omega)) rfl rfl ?_
 clear g1 g2
 rintro e w ⟨R,hRp,rfl,hm⟩
 replace hp:=hp.add hm
 clear hm
 refine ⟨_,rfl,?_⟩
 have hRl:R.l.length=l1.length:=by
  have:=congrArg List.length hRp
  rwa [List.length_map,List.length_map] at this
 have hRr:∀j∈R.l,rightJ j=true:=fun j hj=>job_in hJ1 (by rw [←hRp];exact List.mem_map_of_mem hj)
 rcases Nat.eq_zero_or_pos R.l.length with h0|h0
 ·((conv=>whnf);repeat' ((first|((with_reducible refine br_id ?_);((with_reducible refine br_eq (fun hx=>?_) (fun hx=>?_))<;>(try (exfalso;first|omega|contradiction))))|((with_reducible refine gen_id ?_);(apply gen_len;exact rfl;exact rfl;assumption))|((with_reducible refine cl_id ?_);((refine cl_eq ((alive34_any _)) rfl rfl ?_;rintro e w ⟨rfl,hcc⟩;replace hp:=hp.call0 hcc;refine ⟨_,rfl,?_⟩))))<;>(conv=>whnf)))
  all_goals first
   |(exfalso;omega)
   |exact ps_val (v':= .bool true) rfl ⟨rfl,hp.chg⟩
 obtain ⟨k,hk⟩:∃k,at_.toNat % R.l.length=k:=⟨_,rfl⟩
 have hkl:k < R.l.length:=by rw [←hk];exact Nat.mod_lt _ h0
 have htm:((at_.toNat:Nat):Int).tmod (R.l.length:Int)=(k:Int):=by rw [←hk];exact (Int.ofNat_tmod _ _).symm
 obtain ⟨hrow1,hpay1⟩:=jobRs_at (hp.get (j:=0) rfl)
 obtain ⟨b,o,y,hA,hbb,hrow,hyy⟩:=hrow1.has hkl
 have hym:=List.mem_of_getElem? hyy
 have hyR:=hRr y hym
 have hyl:=due_live hJI hp1 (j:=y) (by rw [←hRp];exact List.mem_map_of_mem hym)
 have hyP:=rightP_at (rightJ_pay hyR)
 have hyT:=tierAt_lt (b:=y.height.toNat) (h:=x.ht.toNat) (step:=x.cfg.stp) hyP.1
 have hyf:=rightP_few (rightJ_pay hyR)
 generalize tierAt y.height.toNat x.ht.toNat x.cfg.stp y.pay.l.length=T at hyl hyT
 have hbR:=hp.get (j:=0) rfl
 have tm_:∀{f:Int→Prop},f (k:Int)→f (((at_.toNat:Nat):Int).tmod (R.l.length:Int)):=fun h=>by rw [htm];exact h
 clear hbb
 by_cases hrg:0≤y.live∧y.live < (y.pay.l.length:Int)
 rotate_left
 ·have hm0:y.mined.toNat≠0:=by omega
  ((conv=>whnf);repeat' ((first|((with_reducible refine br_id ?_);first|(with_reducible refine br_t ?_)|(with_reducible refine br_f ?_)|((with_reducible refine br_dec (fun hx=>?_) (fun hx=>?_))<;>(try (exfalso;first|omega|contradiction)))|((with_reducible refine br_eq (fun hx=>?_) (fun hx=>?_))<;>(try (exfalso;first|omega|contradiction)))|((with_reducible refine br_ne (fun hx=>?_) (fun hx=>?_))<;>(try (exfalso;first|omega|contradiction))))|((with_reducible refine ar_id ?_);(refine ar_i64 (by omega) ?_))|((with_reducible refine cn_id ?_);first|(refine cn rfl ?_)|(refine cn ‹_› ?_))|((with_reducible refine ld_id ?_);(apply ld_hs hp;(focus repeat' constructor);exact rfl))|((with_reducible refine ldn_id ?_);((refine ldn_rowat hrow k 0 (vs:=Job.c y) (by rw [htm];rfl) hyy rfl rfl ?_)))|((with_reducible refine al_id ?_);(refine al_cel hp ?_;clear hp;intro bb w hp))|((with_reducible refine st_id ?_);(apply sta_hs hp;(focus repeat' constructor);exact rfl;exact rfl;clear hp;intro w hp;(try dsimp only [List.set] at hp)))|((with_reducible refine gen_id ?_);first|((refine gen_ixs rfl rfl hA rfl rfl (by rw [htm];omega) ?_))|(apply gen_len;exact rfl;exact rfl;assumption))|((with_reducible refine cl_id ?_);((refine cl_eq ((alive34_any _)) rfl rfl ?_;rintro e w ⟨rfl,hcc⟩;replace hp:=hp.call0 hcc;refine ⟨_,rfl,?_⟩))))<;>(conv=>whnf)))
  all_goals first
   |(exfalso;omega)
   |exact ps_val (v':= .bool true) rfl ⟨rfl,hp.chg⟩
 obtain ⟨b4,o4,t,hA4,_,_,htt⟩:=(hpay1 y hym).row.has (i:=y.live.toNat) (by omega)
 have htm2:=List.mem_of_getElem? htt
 have htl:=(fewP_at hyf).1 t htm2
 have hti:∀{w:World} {rs:List Res},Hp N0 w0 w rs→star (jobRs R)∈rs→RowAt w Tier.c 2 b4 o4 y.pay.l:=fun hp hm=>by
  obtain ⟨b',o',h1,_,h3⟩:=((jobRs_at (hp.ok _ hm)).2 y hym).row.row (fun e=>by rw [e] at htt;simp at htt)
  rw [hA4] at h1
  cases h1
  exact h3
 obtain ⟨id,hid⟩:∃id,shaV t.tx.l=id:=⟨_,rfl⟩
 have hrid:∀{w:World} {rs:List Res},Hp N0 w0 w rs→star (jobRs R)∈rs→Calls Tryz.prog 19 #[t.tx.v] w fun e w'=>e= .returned id.v∧Chg N0 w w':=fun hp hm=>by
  rw [←hid]
  exact rid_any (((jobRs_at (hp.ok _ hm)).2 y hym).tx t htm2) (by omega)
 clear hpay1 hrow1
 ((conv=>whnf);repeat' ((first|((with_reducible refine br_id ?_);first|(with_reducible refine br_f ?_)|((with_reducible refine br_dec (fun hx=>?_) (fun hx=>?_))<;>(try (exfalso;first|omega|contradiction)))|((with_reducible refine br_eq (fun hx=>?_) (fun hx=>?_))<;>(try (exfalso;first|omega|contradiction))))|((with_reducible refine ar_id ?_);(refine ar_i64 (by omega) ?_))|((with_reducible refine cn_id ?_);first|(refine cn rfl ?_)|(refine cn ‹_› ?_))|((with_reducible refine ld_id ?_);first|((refine ld_of ((hti hp (by simp)) _ t htt 1 _ rfl) ?_))|(apply ld_hs hp;(focus repeat' constructor);exact rfl))|((with_reducible refine ldn_id ?_);first|((refine ldn_rowat hrow k 0 (vs:=Job.c y) (by rw [htm];rfl) hyy rfl rfl ?_))|(apply lda_hs hp;(focus repeat' constructor);exact rfl))|((with_reducible refine al_id ?_);(refine al_cel hp ?_;clear hp;intro bb w hp))|((with_reducible refine st_id ?_);(apply sta_hs hp;(focus repeat' constructor);exact rfl;exact rfl;clear hp;intro w hp;(try dsimp only [List.set] at hp)))|((with_reducible refine gen_id ?_);first|((refine gen_ixs rfl rfl hA rfl rfl (by rw [htm];omega) ?_))|((refine gen_ixs rfl rfl hA4 rfl rfl (by omega) ?_))|(apply gen_len;exact rfl;exact rfl;assumption))|((with_reducible refine cl_id ?_);((refine cl_eq ((hrid hp (by simp))) rfl rfl ?_;rintro e w ⟨rfl,hcc⟩;replace hp:=hp.call0 hcc;refine ⟨_,rfl,?_⟩))))<;>(conv=>whnf)))
 all_goals first
  |(exfalso;omega)
  |skip
 obtain ⟨b9,hb9⟩:∃b,b=bb:=⟨_,rfl⟩
 subst hb9
 obtain ⟨b8,hb8⟩:∃b,b=bb:=⟨_,rfl⟩
 subst hb8
 have hj2:=jobRs_at (hp.get (j:=2) rfl)
 refine cl_eq (revict29_any hj2.1 hj2.2 (fun j hj=>by
  have hr:=hRr j hj
  refine ⟨rightP_few (rightJ_pay hr),?_⟩
  unfold rightJ at hr
  rw [Bool.and_eq_true,decide_eq_true_eq] at hr
  exact ⟨hr.2.2.1,hr.2.2.2.1⟩) (by omega) id) rfl rfl ?_
 clear hj2
 rintro e w ⟨JA,Jn,Jc,K,hK,rfl,hm⟩
 replace hp:=hp.add hm
 clear hm
 refine ⟨_,rfl,?_⟩
 have hyK:y.key∈K.l:=by
  rw [hK]
  refine List.mem_map_of_mem (List.mem_filter.2 ⟨hym,?_⟩)
  unfold evJ
  rw [htt]
  dsimp only
  rw [decide_eq_true hrg.1,decide_eq_true hid]
  rfl
 rw [evict_keys hJ1 hRp id] at hK
 have hKl:((thoK (evQ id) l1).length:Int)=K.l.length:=by rw [hK]
 ((conv=>whnf);repeat' (((with_reducible refine ldn_id ?_);(apply lda_hs hp;(focus repeat' constructor);exact rfl))<;>(conv=>whnf)))
 refine cl_eq (bevict_any (hp.get (j:=4) rfl) hJ1 (by omega) id) rfl rfl ?_
 rintro e w ⟨rfl,hm⟩
 replace hp:=hp.via (j:=4) rfl hm
 clear hm
 dsimp only [List.set] at hp
 refine ⟨_,rfl,?_⟩
 obtain ⟨l2,hl2⟩:∃l2,offL (thoK (evQ id) l1) l1=l2:=⟨_,rfl⟩
 have hJ2:JtI ord.l l2:=by rw [←hl2];exact off_jti hJ1 _
 have hll2:l2.length≤600:=by
  have h1:=congrArg List.length (offL_keys (thoK (evQ id) l1) l1)
  rw [List.length_map,List.length_map,hl2] at h1
  omega
 have hO2:=offL_subs hJ1 id hd1
 rw [hl2] at hp hO2
 have hp0:Hp N0 w0 w [star (allRs bk X ⟨x.cfg.dep,x.ht,W⟩ mj ord l2),rowR 42 2 Key.c K,cel b9 44 id.c.toArray,cel b8 49 (Job.c y).toArray,cel b2 31 x.c.toArray]:=(hp.pick (rs':= [star (bjRs bk X mj ord l2),star (chlRs X.bc ⟨x.cfg.dep,x.ht,W⟩),rowR 42 2 Key.c K,cel b9 44 id.c.toArray,cel b8 49 (Job.c y).toArray,cel b2 31 x.c.toArray]) [4,5,0,1,2,6] (by decide) rfl).fold 2
 clear hp hti hrid
 have hp:=hp0
 clear hp0
 ((conv=>whnf);repeat' ((first|((with_reducible refine br_id ?_);((with_reducible refine br_ne (fun hx=>?_) (fun hx=>?_))<;>(try (exfalso;first|omega|contradiction))))|((with_reducible refine gen_id ?_);(apply gen_len;exact rfl;exact rfl;assumption)))<;>(conv=>whnf)))
 all_goals first
  |(exfalso;omega)
  |skip
 refine cl_eq (all_any (hp.get (j:=0) rfl) hC hJ2 (by omega) hst2 hXh) rfl rfl ?_
 rintro e w ⟨O2,hO,rfl,hm⟩
 replace hp:=hp.via (j:=0) rfl hm
 clear hm
 dsimp only [List.set] at hp
 refine ⟨_,rfl,?_⟩
 rw [hXs,show (Chn.mk x.cfg.dep x.ht W).ht=x.ht from rfl,hO2] at hO
 have hp0:Hp N0 w0 w [star (subRs O2),rowR 42 2 Key.c K,cel b9 44 id.c.toArray,cel b8 49 (Job.c y).toArray,cel b2 31 x.c.toArray]:=hp.unfold.pick [2,3,4,5,6] (by decide) rfl
 clear hp
 have hp:=hp0
 clear hp0
 have hOl:O2.l.length=K.l.length:=by
  have h1:=congrArg List.length hO
  rw [List.length_map,List.length_map] at h1
  rw [hK]
  unfold thoK
  rw [List.length_map,h1]
 have hKm:K.l.length≤600:=by
  rw [hK]
  unfold thoK
  rw [List.length_map]
  exact Nat.le_trans (List.length_filter_le _ _) hll1
 have hat:∀{i:Nat} {z:Sub},O2.l[i]? =some z→K.l[i]? =some z.key∧shaV z.tx.l=id∧z.height=x.ht∧z.tx.l.length≤64:=fun hz=>by
  have:=out_at hJ1 hO hz
  rw [←hK] at this
  exact this
 ((conv=>whnf);repeat' ((first|((with_reducible refine br_id ?_);((with_reducible refine br_ne (fun hx=>?_) (fun hx=>?_))<;>(try (exfalso;first|omega|contradiction))))|((with_reducible refine gen_id ?_);(apply gen_len;exact rfl;exact rfl;assumption)))<;>(conv=>whnf)))
 all_goals first
  |(exfalso;omega)
  |skip
 refine lp_inv (α:=Nat) (fun i=> [(2,ptr b2),(8,ptr b8),(9,ptr b9),(11,K.v),(13, .bool (decide (y.key∈K.l.take i))),(99,O2.v),(100,i64 O2.l.length),(101,i64 i)]) (fun i w=>i≤O2.l.length∧Hp N0 w0 w [star (subRs O2),rowR 42 2 Key.c K,cel b9 44 id.c.toArray,cel b8 49 (Job.c y).toArray,cel b2 31 x.c.toArray]) (fun i=>O2.l.length - i) 0 (by (repeat' (first|exact trivial|(refine ⟨rfl,?_⟩)))) ⟨by omega,hp⟩ ?_
 clear hp
 rintro i e0 w ⟨hi,hp⟩
 dsimp only at hi hp ⊢
 rcases Nat.lt_or_ge i O2.l.length with hlt|hge
 ·have hsb:=subRs_at (hp.get (j:=0) rfl)
  obtain ⟨bo,oo,z,hAo,_,hrowo,hzz⟩:=hsb.row.has hlt
  obtain ⟨hzk,hzs,hzh,hzl⟩:=hat hzz
  obtain ⟨bk2,ok2,kk,hAk,_,_,hkk⟩:=(hp.row (j:=1) rfl).has (i:=i) (by omega)
  obtain rfl:kk=z.key:=Option.some.inj (hkk.symm.trans hzk)
  have hzm:=List.mem_of_getElem? hzz
  have hzh2:(z.height.toNat:Int)=x.ht.toNat:=by rw [hzh]
  have hrid:∀{w:World} {rs:List Res},Hp N0 w0 w rs→star (subRs O2)∈rs→Calls Tryz.prog 19 #[z.tx.v] w fun e w'=>e= .returned id.v∧Chg N0 w w':=fun hp hm=>by
   rw [←hzs]
   exact rid_any ((subRs_at (hp.ok _ hm)).tx z hzm) (by omega)
  have hek:EqIs Tryz.prog 42 z.key.v z.key.v true:=by have:=eq_key z.key z.key;rwa [decide_eq_true rfl] at this
  have hei:EqIs Tryz.prog 44 id.v id.v true:=by have:=eq_id id id;rwa [decide_eq_true rfl] at this
  have hn0:(if BinOp.neq=BinOp.eql then true else !true)=false:=rfl
  have hn1:(if BinOp.eql=BinOp.eql then true else !true)=true:=rfl
  have hn2:(if BinOp.eql=BinOp.eql then false else !false)=false:=rfl
  have hst:decide (y.key∈K.l.take (i+1))=(decide (y.key∈K.l.take i)|| decide (z.key=y.key)):=by
   rw [List.take_add_one,hkk,Bool.eq_iff_iff,Bool.or_eq_true,decide_eq_true_eq,decide_eq_true_eq,decide_eq_true_eq]
   exact List.mem_append.trans (or_congr Iff.rfl (List.mem_singleton.trans eq_comm))
  clear hsb
  obtain ⟨m,hm⟩:∃m,decide (y.key∈K.l.take i)=m:=⟨_,rfl⟩
  rw [hm] at hst ⊢
  ((conv=>whnf);repeat' ((first|((with_reducible refine br_id ?_);((with_reducible refine br_dec (fun hx=>?_) (fun hx=>?_))<;>(try (exfalso;first|omega|contradiction))))|((with_reducible refine cn_id ?_);(refine cn rfl ?_))|((with_reducible refine ldn_id ?_);((refine ldn_rowat hrowo i 0 (vs:=Sub.c z) rfl hzz rfl rfl ?_)))|((with_reducible refine al_id ?_);(refine al_cel hp ?_;clear hp;intro bb w hp))|((with_reducible refine st_id ?_);(apply sta_hs hp;(focus repeat' constructor);exact rfl;exact rfl;clear hp;intro w hp;(try dsimp only [List.set] at hp)))|((with_reducible refine gen_id ?_);((refine gen_ixs rfl rfl hAo rfl rfl (by omega) ?_))))<;>(conv=>whnf)))
  refine dr_autos [] 1000 tabOk (by kernel_rfl) (by decide+kernel) ?_
  replace hp:=hp.drew
  cases m with
  |true=>
   rw [Bool.true_or] at hst
   ((conv=>whnf);repeat' ((first|((with_reducible refine br_id ?_);first|((with_reducible refine br_0 hn0 ?_))|(with_reducible refine br_t ?_)|(with_reducible refine br_f ?_)|((with_reducible refine br_ne (fun hx=>?_) (fun hx=>?_))<;>(try (exfalso;first|omega|contradiction))))|((with_reducible refine ar_id ?_);(refine ar_i64 (by omega) ?_))|((with_reducible refine cn_id ?_);(refine cn ‹_› ?_))|((with_reducible refine ld_id ?_);(apply ld_hs hp;(focus repeat' constructor);exact rfl))|((with_reducible refine ldn_id ?_);first|((refine ldn_ownx hp 2 rfl hAk i rfl hkk rfl ?_))|(apply lda_hs hp;(focus repeat' constructor);exact rfl)|(apply ldn_hs hp;(focus repeat' constructor);exact rfl;exact rfl))|((with_reducible refine cl_id ?_);((refine cl_eq ((hrid hp (by simp))) rfl rfl ?_;rintro e w ⟨rfl,hcc⟩;replace hp:=hp.call0 hcc;refine ⟨_,rfl,?_⟩)))|((with_reducible refine rd_id ?_);first|((refine rd_ixs rfl rfl hAk rfl rfl (by omega) ?_))|((refine rd_eqa rfl rfl rfl hek (by kernel_rfl) (.inr rfl) ?_))|((refine rd_eqa rfl rfl rfl hei (by kernel_rfl) (.inr rfl) ?_))))<;>(conv=>whnf)))
   all_goals first
    |(exfalso;omega)
    |exact lp_next (i+1) (by show O2.l.length - (i+1) < O2.l.length - i;omega) (by rw [hst];(repeat' (first|exact trivial|(refine ⟨rfl,?_⟩)))) ⟨by show i+1≤_;omega,hp.tail⟩
  |false=>
   rw [Bool.false_or] at hst
   by_cases hky:z.key=y.key
   ·rw [decide_eq_true hky] at hst
    have hey:EqIs Tryz.prog 42 z.key.v y.key.v true:=by have:=eq_key z.key y.key;rwa [decide_eq_true hky] at this
    ((conv=>whnf);repeat' ((first|((with_reducible refine br_id ?_);first|((with_reducible refine br_0 hn0 ?_))|(with_reducible refine br_f ?_)|((with_reducible refine br_ne (fun hx=>?_) (fun hx=>?_))<;>(try (exfalso;first|omega|contradiction))))|((with_reducible refine ar_id ?_);(refine ar_i64 (by omega) ?_))|((with_reducible refine cn_id ?_);(refine cn ‹_› ?_))|((with_reducible refine ld_id ?_);(apply ld_hs hp;(focus repeat' constructor);exact rfl))|((with_reducible refine ldn_id ?_);first|((refine ldn_ownx hp 2 rfl hAk i rfl hkk rfl ?_))|(apply lda_hs hp;(focus repeat' constructor);exact rfl)|(apply ldn_hs hp;(focus repeat' constructor);exact rfl;exact rfl))|((with_reducible refine gen_id ?_);((refine gen_eqa rfl rfl rfl hey (by kernel_rfl) (.inl rfl) ?_)))|((with_reducible refine cl_id ?_);((refine cl_eq ((hrid hp (by simp))) rfl rfl ?_;rintro e w ⟨rfl,hcc⟩;replace hp:=hp.call0 hcc;refine ⟨_,rfl,?_⟩)))|((with_reducible refine rd_id ?_);first|((refine rd_ixs rfl rfl hAk rfl rfl (by omega) ?_))|((refine rd_eqa rfl rfl rfl hek (by kernel_rfl) (.inr rfl) ?_))|((refine rd_eqa rfl rfl rfl hei (by kernel_rfl) (.inr rfl) ?_))))<;>(conv=>whnf)))
    all_goals first
     |(exfalso;omega)
     |exact lp_next (i+1) (by show O2.l.length - (i+1) < O2.l.length - i;omega) (by rw [hst];(repeat' (first|exact trivial|(refine ⟨rfl,?_⟩)))) ⟨by show i+1≤_;omega,hp.tail⟩
   ·rw [decide_eq_false hky] at hst
    have hey:EqIs Tryz.prog 42 z.key.v y.key.v false:=by have:=eq_key z.key y.key;rwa [decide_eq_false hky] at this
    ((conv=>whnf);repeat' ((first|((with_reducible refine br_id ?_);first|((with_reducible refine br_0 hn0 ?_))|(with_reducible refine br_f ?_)|((with_reducible refine br_ne (fun hx=>?_) (fun hx=>?_))<;>(try (exfalso;first|omega|contradiction))))|((with_reducible refine ar_id ?_);(refine ar_i64 (by omega) ?_))|((with_reducible refine cn_id ?_);(refine cn ‹_› ?_))|((with_reducible refine ld_id ?_);(apply ld_hs hp;(focus repeat' constructor);exact rfl))|((with_reducible refine ldn_id ?_);first|((refine ldn_ownx hp 2 rfl hAk i rfl hkk rfl ?_))|(apply lda_hs hp;(focus repeat' constructor);exact rfl)|(apply ldn_hs hp;(focus repeat' constructor);exact rfl;exact rfl))|((with_reducible refine gen_id ?_);((refine gen_eqa rfl rfl rfl hey (by kernel_rfl) (.inl rfl) ?_)))|((with_reducible refine cl_id ?_);((refine cl_eq ((hrid hp (by simp))) rfl rfl ?_;rintro e w ⟨rfl,hcc⟩;replace hp:=hp.call0 hcc;refine ⟨_,rfl,?_⟩)))|((with_reducible refine rd_id ?_);first|((refine rd_ixs rfl rfl hAk rfl rfl (by omega) ?_))|((refine rd_eqa rfl rfl rfl hek (by kernel_rfl) (.inr rfl) ?_))|((refine rd_eqa rfl rfl rfl hei (by kernel_rfl) (.inr rfl) ?_))))<;>(conv=>whnf)))
    all_goals first
     |(exfalso;omega)
     |exact lp_next (i+1) (by show O2.l.length - (i+1) < O2.l.length - i;omega) (by rw [hst];(repeat' (first|exact trivial|(refine ⟨rfl,?_⟩)))) ⟨by show i+1≤_;omega,hp.tail⟩
 ·rw [List.take_of_length_le (by omega),decide_eq_true hyK]
  ((conv=>whnf);repeat' ((first|((with_reducible refine br_id ?_);first|(with_reducible refine br_t ?_)|((with_reducible refine br_dec (fun hx=>?_) (fun hx=>?_))<;>(try (exfalso;first|omega|contradiction))))|((with_reducible refine cl_id ?_);((refine cl_eq ((alive34_any _)) rfl rfl ?_;rintro e w ⟨rfl,hcc⟩;replace hp:=hp.call0 hcc;refine ⟨_,rfl,?_⟩))))<;>(conv=>whnf)))
  exact ps_val (v':= .bool true) rfl ⟨rfl,hp.chg⟩
end Go.Proofs.YteabebmlclgakaaGreat
