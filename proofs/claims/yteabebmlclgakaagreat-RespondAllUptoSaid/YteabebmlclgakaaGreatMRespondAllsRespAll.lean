/- RespAll: what is sent out of any book: the law. Of states of a bounded bulk. -/
import Derived.Test.YteabebmlclgakaaGreatMRespondAll38
set_option linter.unusedSimpArgs false
set_option linter.unusedVariables false
namespace Go.Proofs.YteabebmlclgakaaGreat
open Go.RowKit
set_option maxRecDepth 100000
set_option maxHeartbeats 4000000
theorem respAll_any {B:Nat} {w0:World} {x:Sta} (hs:StaAt B w0 x) (hb:StaB 1048576 x) (hBw:B≤w0.heap.size) (hlv:∀j∈x.jobs.l, -9223372036854775808≤j.live∧j.live≤9223372036854775807) (hst: -9223372036854775808≤x.cfg.stp∧x.cfg.stp≤9223372036854775807):Calls Tryz.prog 5 #[x.v] w0 fun e w'=>e= .returned (.bool true)∧Chg N0 w0 w':=by
 have hp:=Hp.start (S:=N0) w0
 have hB:∀b,N0 b→B≤b:=fun _ hh=>hh.elim
 have us:=Tryz.underlying60
 have u4:=Tryz.underlying29
 have u1:=Tryz.underlying45
 have up:=Tryz.underlying57
 have hfw:=fun {w:World} (hc:Chg N0 w0 w)=>few31_any (hs.keep hc hB) hb
 cases hq:fewS x with
 |false=>
  rw [hq] at hfw
  refine calls_x (args:= [_]) tabOk Tryz.func5 Tryz.ntmps5 Tryz.results5 rfl (Nat.le_of_ble_eq_true rfl) ?_
  ((conv=>whnf);repeat' ((first|((with_reducible refine br_id ?_);first|(with_reducible refine br_f ?_)|(with_reducible refine br_not ?_))|((with_reducible refine ldn_id ?_);(apply lda_hs hp;(focus repeat' constructor);exact rfl))|((with_reducible refine al_id ?_);(refine al_cel hp ?_;clear hp;intro bb w hp))|((with_reducible refine cl_id ?_);first|((refine cl_eq ((hfw hp.chg)) rfl rfl ?_;rintro e w ⟨rfl,hcc⟩;replace hp:=hp.call0 hcc;refine ⟨_,rfl,?_⟩))|((refine cl_eq ((alive34_any _)) rfl rfl ?_;rintro e w ⟨rfl,hcc⟩;replace hp:=hp.call0 hcc;refine ⟨_,rfl,?_⟩))))<;>(conv=>whnf)))
  exact ps_val (v':= .bool true) rfl ⟨rfl,hp.chg⟩
 |true=>
 rw [hq] at hfw
 have hf:=fewS_at hq
 have hrr:=fun {w:World} (hc:Chg N0 w0 w)=>rright31_any (hs.keep hc hB) hf hlv
 refine calls_x (args:= [_]) tabOk Tryz.func5 Tryz.ntmps5 Tryz.results5 rfl (Nat.le_of_ble_eq_true rfl) ?_
 ((conv=>whnf);repeat' ((first|((with_reducible refine br_id ?_);first|(with_reducible refine br_t ?_)|(with_reducible refine br_not ?_))|((with_reducible refine ldn_id ?_);(apply lda_hs hp;(focus repeat' constructor);exact rfl))|((with_reducible refine al_id ?_);(refine al_cel hp ?_;clear hp;intro bb w hp))|((with_reducible refine cl_id ?_);((refine cl_eq ((hfw hp.chg)) rfl rfl ?_;rintro e w ⟨rfl,hcc⟩;replace hp:=hp.call0 hcc;refine ⟨_,rfl,?_⟩))))<;>(conv=>whnf)))
 refine cl_eq (bload_any (hs.keep hp.chg hB) (Nat.le_trans hBw hp.chg.size) hf hlv) rfl rfl ?_
 rintro e w (⟨hR,rfl,hcc⟩|⟨hR,bk,X,W,Y,ms,g,mj,ord,l,hL,rfl,hm⟩)
 ·replace hp:=hp.call0 hcc
  refine ⟨_,rfl,?_⟩
  rw [hR] at hrr
  ((conv=>whnf);repeat' ((first|((with_reducible refine br_id ?_);first|(with_reducible refine br_t ?_)|(with_reducible refine br_f ?_)|(with_reducible refine br_not ?_)|((with_reducible refine br_eq (fun hx=>?_) (fun hx=>?_))<;>(try (exfalso;first|omega|contradiction))))|((with_reducible refine ldn_id ?_);(apply lda_hs hp;(focus repeat' constructor);exact rfl))|((with_reducible refine gen_id ?_);(apply gen_len;exact rfl;exact rfl;assumption))|((with_reducible refine cl_id ?_);first|((refine cl_eq ((hrr hp.chg)) rfl rfl ?_;rintro e w ⟨rfl,hcc⟩;replace hp:=hp.call0 hcc;refine ⟨_,rfl,?_⟩))|((refine cl_eq ((all_nil)) rfl rfl ?_;rintro e w ⟨rfl,hcc⟩;replace hp:=hp.call0 hcc;refine ⟨_,rfl,?_⟩))|((refine cl_eq ((alive34_any _)) rfl rfl ?_;rintro e w ⟨rfl,hcc⟩;replace hp:=hp.call0 hcc;refine ⟨_,rfl,?_⟩))))<;>(conv=>whnf)))
  exact ps_val (v':= .bool true) rfl ⟨rfl,hp.chg⟩
 replace hp:=hp.add hm
 clear hm hrr
 refine ⟨_,rfl,?_⟩
 obtain ⟨b1,hb1⟩:∃b,b=bb:=⟨_,rfl⟩
 subst hb1
 have hC:=lod_chn hR hL.win
 have hTb:=lod_tbI hR
 have hJI:=hL.jt
 have hps:=hL.jobs
 have f1:=lod_ses hR
 have f4:=hf.jobs
 have hll:l.length≤600:=by
  have:=congrArg List.length hps
  rw [List.length_map,List.length_map] at this
  omega
 have hst2: -9223372036854775808≤X.cfg.stp∧X.cfg.stp≤9223372036854775807:=by rw [hL.cfg];exact hst
 have hp0:Hp N0 w0 w [star (allRs bk X ⟨x.cfg.dep,x.ht,W⟩ mj ord l),tabR X.bs ms x.cfg.ses (tblOf x.ses.l),star (shRs X.bh g),cel b1 31 x.c.toArray]:=lod_all hp
 clear hp
 have hp:=hp0
 clear hp0
 have hse:=fun (l':List (Key×EntB))=>lod_state (l':=l') hL
 by_cases hh:x.halt=0
 ·have hXh:X.halt=0:=hL.halt.trans hh
  have hXs:X.cfg.stp=x.cfg.stp:=by rw [hL.cfg]
  ((conv=>whnf);repeat' (((with_reducible refine br_id ?_);(with_reducible refine br_f ?_))<;>(conv=>whnf)))
  refine cl_eq (all_any (hp.get (j:=0) rfl) hC hJI (by omega) hst2 hXh) rfl rfl ?_
  rintro e w ⟨O,hO,rfl,hm⟩
  replace hp:=hp.via (j:=0) rfl hm
  clear hm
  dsimp only [List.set] at hp
  refine ⟨_,rfl,?_⟩
  obtain ⟨l1,hl1⟩:∃l1,l.map (sentE (Chn.mk x.cfg.dep x.ht W).ht X.cfg.stp)=l1:=⟨_,rfl⟩
  have hJ1:JtI ord.l l1:=by rw [←hl1];exact sent_jti hJI _ _
  have hp1:l1.map (fun p=>p.2.job.p)=sentP x.ht x.cfg.stp (x.jobs.l.map Job.p):=by rw [←hl1,sent_ps,hps,hXs]
  have hll1:l1.length≤600:=by rw [←hl1,List.length_map];exact hll
  rw [hl1] at hp
  have hO':O.l.map Sub.p=subsP x.ht x.cfg.stp (x.jobs.l.map Job.p):=by rw [hO,hps,hXs]
  replace hp:Hp N0 w0 w [star (allRs bk X ⟨x.cfg.dep,x.ht,W⟩ mj ord l1),star (subRs O),tabR X.bs ms x.cfg.ses (tblOf x.ses.l),star (shRs X.bh g),cel b1 31 x.c.toArray]:=hp.unfold.fold 2
  ((conv=>whnf);repeat' (((with_reducible refine ldn_id ?_);(apply lda_hs hp;(focus repeat' constructor);exact rfl))<;>(conv=>whnf)))
  refine cl_eq (rall34_any (hs.keep hp.chg hB) hf hst hh) rfl rfl ?_
  rintro e w ⟨J,O2,hJ,hO2,rfl,hm⟩
  replace hp:Hp N0 w0 w [rowR 49 38 Job.c J,star (subRs O2),star (allRs bk X ⟨x.cfg.dep,x.ht,W⟩ mj ord l1),star (subRs O),tabR X.bs ms x.cfg.ses (tblOf x.ses.l),star (shRs X.bh g),cel b1 31 x.c.toArray]:=(hp.add hm).unfold
  clear hm
  refine ⟨_,rfl,?_⟩
  have hsub:∀{w:World} {rs:List Res},Hp N0 w0 w rs→star (subRs O)∈rs→star (subRs O2)∈rs→Calls Tryz.prog 23 #[O.v,O2.v] w fun e w'=>e= .returned (.bool true)∧Chg N0 w w':=fun hp h1 h2=>by
   have:=rall33_any (subRs_at (hp.ok _ h1)) (subRs_at (hp.ok _ h2))
   rw [decide_eq_true (show O.l.map (·.p)=O2.l.map (·.p) from hO'.trans hO2.symm)] at this
   exact this
  have hJp:J.l.map Job.p=sentP x.ht x.cfg.stp (x.jobs.l.map Job.p):=by
   rw [hJ,List.map_map]
   unfold sentP
   rw [List.map_map]
   exact List.map_congr_left fun j _=>sentB_p x.ht x.cfg.stp j
  have hsta:∀{w:World} {rs:List Res},Hp N0 w0 w rs→star (allRs bk X ⟨x.cfg.dep,x.ht,W⟩ mj ord l1)∈rs→tabR X.bs ms x.cfg.ses (tblOf x.ses.l)∈rs→star (shRs X.bh g)∈rs→Calls Tryz.prog 24 #[ptr bk] w fun e w'=>∃r:Sta,r.p={x.p with jobs:=sentP x.ht x.cfg.stp (x.jobs.l.map Job.p)}∧e= .returned r.v∧Made (star (tolRs r)) w w':=fun {w rs} hp h1 h2 h3=>by
   have hq:=Hp.open (hp.ok _ h1)
   obtain ⟨g1,g2⟩:=bjRs_at (hq.get (j:=0) rfl)
   have ht:(star (tabRs X.bs ms x.cfg.ses (tblOf x.ses.l))).ok w:=hp.ok _ h2
   have:=bstate_any g1 (hC.at_ (hq.get (j:=1) rfl)) (tbAt ht) hTb (by omega) (shAt (hp.ok _ h3)) hL.sh g2 hJ1 (by omega)
   rw [hse l1,hp1] at this
   exact this
  have hsam:∀{w:World} {rs:List Res} {r:Sta},r.p={x.p with jobs:=sentP x.ht x.cfg.stp (x.jobs.l.map Job.p)}→Hp N0 w0 w rs→star (tolRs r)∈rs→rowR 49 38 Job.c J∈rs→Calls Tryz.prog 12 #[r.v,Sta.v {x with jobs:=J}] w fun e w'=>e= .returned (.bool true)∧Chg N0 w w':=fun {w rs r} hr hp h1 h2=>by
   have t:=(hs.keep hp.chg hB).more (Nat.le_trans hBw hp.chg.size)
   have h3:StaAt w.heap.size w {x with jobs:=J}:=⟨t.win,t.tx,t.ses,t.blobs,rowR_at (hp.ok _ h2),fun j hj=>by
    rw [show Sta.jobs {x with jobs:=J}=J from rfl,hJ] at hj
    obtain ⟨k,hk,rfl⟩:=List.mem_map.1 hj
    rw [sentB_pay]
    exact t.pay k hk⟩
   have h4:=same31_any (tolRs_at (hp.ok _ h1)) h3
   rw [decide_eq_true (show r.p=Sta.p {x with jobs:=J} by rw [hr];unfold Sta.p;rw [hJp])] at h4
   exact h4
  clear hJp hse
  have hzero:∀{O3:Sl Sub},O3.l.map Sub.p=subsP (Chn.mk x.cfg.dep x.ht W).ht X.cfg.stp (l1.map fun p=>p.2.job.p)→O3.l.length=0:=fun {O3} h=>by
   rw [hp1,hXs,show (Chn.mk x.cfg.dep x.ht W).ht=x.ht from rfl,subs_sent] at h
   rw [List.map_eq_nil_iff.1 h]
   rfl
  ((conv=>whnf);repeat' ((first|((with_reducible refine cn_id ?_);(refine cn rfl ?_))|((with_reducible refine al_id ?_);(refine al_cel hp ?_;clear hp;intro bb w hp))|((with_reducible refine st_id ?_);(apply sta_hs hp;(focus repeat' constructor);exact rfl;exact rfl;clear hp;intro w hp;(try dsimp only [List.set] at hp))))<;>(conv=>whnf)))
  refine dr_autos [] 13 tabOk (by kernel_rfl) (by decide+kernel) ?_
  replace hp:=hp.drew
  ((conv=>whnf);repeat' ((first|((with_reducible refine br_id ?_);first|(with_reducible refine br_t ?_)|(with_reducible refine br_f ?_)|(with_reducible refine br_not ?_)|((with_reducible refine br_ne (fun hx=>?_) (fun hx=>?_))<;>(try (exfalso;first|omega|contradiction))))|((with_reducible refine cn_id ?_);(refine cn ‹_› ?_))|((with_reducible refine ldn_id ?_);(apply lda_hs hp;(focus repeat' constructor);exact rfl))|((with_reducible refine cl_id ?_);first|((refine cl_eq ((hsub hp (by simp) (by simp))) rfl rfl ?_;rintro e w ⟨rfl,hcc⟩;replace hp:=hp.call0 hcc;refine ⟨_,rfl,?_⟩))|((refine cl_eq (hsta hp (by simp) (by simp) (by simp)) rfl rfl ?_;rintro e w ⟨R,hR1,rfl,hms⟩;replace hp:=hp.add hms;replace hms:=hms.chg;refine ⟨_,rfl,?_⟩))|((refine cl_eq ((hsam hR1 hp (by simp) (by simp))) rfl rfl ?_;rintro e w ⟨rfl,hcc⟩;replace hp:=hp.call0 hcc;refine ⟨_,rfl,?_⟩))|((refine cl_eq (all_any (hp.get (j:=4) rfl) hC hJ1 (by omega) hst2 hXh) rfl rfl ?_;rintro e w ⟨O3,hO3,rfl,hm3⟩;have hO30:=hzero hO3;replace hp:=hp.via (j:=4) rfl hm3;clear hm3;dsimp only [List.set] at hp;refine ⟨_,rfl,?_⟩)))|((with_reducible refine rd_id ?_);(apply rd_len;exact rfl;exact rfl;assumption)))<;>(conv=>whnf)))
  all_goals first
   |(exfalso;omega)
   |skip
  obtain ⟨l2,hl2⟩:∃l2,l1.map (sentE (Chn.mk x.cfg.dep x.ht W).ht X.cfg.stp)=l2:=⟨_,rfl⟩
  have hJ2:JtI ord.l l2:=by rw [←hl2];exact sent_jti hJ1 _ _
  have hp2:l2.map (fun p=>p.2.job.p)=sentP x.ht x.cfg.stp (l.map fun p=>p.2.job.p):=by rw [←hl2,sent_ps,hp1,hXs,show (Chn.mk x.cfg.dep x.ht W).ht=x.ht from rfl,sent_sent,hps]
  have hll2:l2.length≤600:=by rw [←hl2,List.length_map];exact hll1
  rw [hl2] at hp
  have hp0:Hp N0 w0 w [star (allRs bk X ⟨x.cfg.dep,x.ht,W⟩ mj ord l2++ [star (subRs O3)]),cel b1 31 x.c.toArray]:=hp.pick [4,8] (by decide) rfl
  clear hp
  have hp:=hp0
  clear hp0
  obtain ⟨g1,g2⟩:=bjRs_at ((Hp.open (hp.get (j:=0) rfl)).get (j:=0) rfl)
  refine cl_eq (bjobs_any g1 g2 hJ2 (by omega)) rfl rfl ?_
  clear g1 g2
  rintro e w ⟨R2,hR2,rfl,hm⟩
  replace hp:=(hp.add hm).pick (rs':= [cel b1 31 x.c.toArray,star (jobRs R2)]) [2,0] (by decide) rfl
  clear hm
  refine ⟨_,rfl,?_⟩
  have hRl:R2.l.length≤600:=by
   have:=congrArg List.length hR2
   rw [List.length_map,List.length_map] at this
   omega
  ((conv=>whnf);repeat' (((with_reducible refine gen_id ?_);(apply gen_len;exact rfl;exact rfl;assumption))<;>(conv=>whnf)))
  refine lp_inv (α:=Nat) (fun i=> [(1,ptr b1),(57,R2.v),(58,i64 R2.l.length),(59,i64 i)]) (fun i w=>i≤R2.l.length∧Hp N0 w0 w [cel b1 31 x.c.toArray,star (jobRs R2)]) (fun i=>R2.l.length - i) 0 (by (repeat' (first|exact trivial|(refine ⟨rfl,?_⟩)))) ⟨by omega,hp⟩ ?_
  clear hp
  rintro i e0 w ⟨hi,hp⟩
  dsimp only at hi hp ⊢
  rcases Nat.lt_or_ge i R2.l.length with hlt|hge
  ·obtain ⟨hrow1,hpay1⟩:=jobRs_at (hp.get (j:=1) rfl)
   obtain ⟨b,o,y,hA,hbb,hrow,hyy⟩:=hrow1.has hlt
   have hym:=List.mem_of_getElem? hyy
   have hya:=hpay1 y hym
   have hyl:=due_live hJI hp2 (j:=y) (by rw [←hR2];exact List.mem_map_of_mem hym)
   have hmax:y.pay.l.length≤9223372036854775807:=by have:=hya.row.le;have:=hya.row.max;simp only [maxLen] at this;omega
   obtain ⟨T,hT⟩:∃T,tierAt y.height.toNat x.ht.toNat x.cfg.stp y.pay.l.length=T:=⟨_,rfl⟩
   have hat:=fun (w:World)=>atRef_any w y.height x.ht x.cfg.stp hst y.pay.l.length hmax
   rw [hT] at hat hyl
   clear hpay1 hrow1 hbb
   ((conv=>whnf);repeat' ((first|((with_reducible refine br_id ?_);((with_reducible refine br_dec (fun hx=>?_) (fun hx=>?_))<;>(try (exfalso;first|omega|contradiction))))|((with_reducible refine cn_id ?_);(refine cn rfl ?_))|((with_reducible refine ldn_id ?_);((refine ldn_rowat hrow i 0 (vs:=Job.c y) rfl hyy rfl rfl ?_)))|((with_reducible refine al_id ?_);(refine al_cel hp ?_;clear hp;intro bb w hp))|((with_reducible refine st_id ?_);(apply sta_hs hp;(focus repeat' constructor);exact rfl;exact rfl;clear hp;intro w hp;(try dsimp only [List.set] at hp)))|((with_reducible refine gen_id ?_);((refine gen_ixs rfl rfl hA rfl rfl (by omega) ?_))))<;>(conv=>whnf)))
   refine dr_autos [] 1000 tabOk (by kernel_rfl) (by decide+kernel) ?_
   replace hp:=hp.drew
   ((conv=>whnf);repeat' ((first|((with_reducible refine br_id ?_);first|(with_reducible refine br_t ?_)|(with_reducible refine br_f ?_)|((with_reducible refine br_eq (fun hx=>?_) (fun hx=>?_))<;>(try (exfalso;first|omega|contradiction)))|((with_reducible refine br_ne (fun hx=>?_) (fun hx=>?_))<;>(try (exfalso;first|omega|contradiction))))|((with_reducible refine ar_id ?_);(refine ar_i64 (by omega) ?_))|((with_reducible refine cn_id ?_);(refine cn ‹_› ?_))|((with_reducible refine ld_id ?_);(apply ld_hs hp;(focus repeat' constructor);exact rfl))|((with_reducible refine cl_id ?_);((refine cl_eq ((hat _)) rfl rfl ?_;rintro e w ⟨rfl,hcc⟩;replace hp:=hp.call0 hcc;refine ⟨_,rfl,?_⟩)))|((with_reducible refine rd_id ?_);(apply rd_len;exact rfl;exact rfl;assumption)))<;>(conv=>whnf)))
   all_goals first
    |(exfalso;omega)
    |exact lp_next (i+1) (by show R2.l.length - (i+1) < R2.l.length - i;omega) (by (repeat' (first|exact trivial|(refine ⟨rfl,?_⟩)))) ⟨by show i+1≤_;omega,hp.tail⟩
  ·((conv=>whnf);repeat' ((first|((with_reducible refine br_id ?_);((with_reducible refine br_dec (fun hx=>?_) (fun hx=>?_))<;>(try (exfalso;first|omega|contradiction))))|((with_reducible refine cl_id ?_);((refine cl_eq ((alive34_any _)) rfl rfl ?_;rintro e w ⟨rfl,hcc⟩;replace hp:=hp.call0 hcc;refine ⟨_,rfl,?_⟩))))<;>(conv=>whnf)))
   exact ps_val (v':= .bool true) rfl ⟨rfl,hp.chg⟩
 ·have hXh:X.halt≠0:=by rw [hL.halt];exact hh
  have hnil:∀w:World,Calls Tryz.prog 23 #[.slice none 0 0, .slice none 0 0] w fun e w'=>e= .returned (.bool true)∧Chg N0 w w':=fun w=>by
   have h0:∀{w:World},SubsAt 0 w (Sl.nil (α:=Sub)):=fun {w}=>⟨.none_,fun _ h=>(by cases h)⟩
   have:=rall33_any (w0:=w) (a:=Sl.nil) (b:=Sl.nil) h0 h0
   rw [decide_eq_true rfl] at this
   exact this
  have hsta:∀{w:World} {rs:List Res},Hp N0 w0 w rs→star (allRs bk X ⟨x.cfg.dep,x.ht,W⟩ mj ord l)∈rs→tabR X.bs ms x.cfg.ses (tblOf x.ses.l)∈rs→star (shRs X.bh g)∈rs→Calls Tryz.prog 24 #[ptr bk] w fun e w'=>∃r:Sta,r.p=x.p∧e= .returned r.v∧Made (star (tolRs r)) w w':=fun {w rs} hp h1 h2 h3=>by
   have hq:=Hp.open (hp.ok _ h1)
   obtain ⟨g1,g2⟩:=bjRs_at (hq.get (j:=0) rfl)
   have ht:(star (tabRs X.bs ms x.cfg.ses (tblOf x.ses.l))).ok w:=hp.ok _ h2
   have:=bstate_any g1 (hC.at_ (hq.get (j:=1) rfl)) (tbAt ht) hTb (by omega) (shAt (hp.ok _ h3)) hL.sh g2 hJI (by omega)
   rw [hse l,hps] at this
   exact this
  have hsam:∀{w:World} {rs:List Res} {r:Sta},r.p=x.p→Hp N0 w0 w rs→star (tolRs r)∈rs→Calls Tryz.prog 12 #[r.v,x.v] w fun e w'=>e= .returned (.bool true)∧Chg N0 w w':=fun {w rs r} hr hp h1=>by
   have h4:=same31_any (tolRs_at (hp.ok _ h1)) (hs.keep hp.chg hB)
   rw [decide_eq_true hr] at h4
   exact h4
  clear hse
  ((conv=>whnf);repeat' ((first|((with_reducible refine br_id ?_);(with_reducible refine br_f ?_))|((with_reducible refine cn_id ?_);(refine cn rfl ?_))|((with_reducible refine ldn_id ?_);(apply lda_hs hp;(focus repeat' constructor);exact rfl))|((with_reducible refine al_id ?_);(refine al_cel hp ?_;clear hp;intro bb w hp))|((with_reducible refine st_id ?_);(apply sta_hs hp;(focus repeat' constructor);exact rfl;exact rfl;clear hp;intro w hp;(try dsimp only [List.set] at hp)))|((with_reducible refine cl_id ?_);first|((refine cl_eq ((all_halted (hp.get (j:=0) rfl) hXh)) rfl rfl ?_;rintro e w ⟨rfl,hcc⟩;replace hp:=hp.call0 hcc;refine ⟨_,rfl,?_⟩))|((refine cl_eq ((rall34_halted hh)) rfl rfl ?_;rintro e w ⟨rfl,hcc⟩;replace hp:=hp.call0 hcc;refine ⟨_,rfl,?_⟩))))<;>(conv=>whnf)))
  refine dr_autos [] 1000 tabOk (by kernel_rfl) (by decide+kernel) ?_
  replace hp:=hp.drew
  ((conv=>whnf);repeat' ((first|((with_reducible refine br_id ?_);first|(with_reducible refine br_t ?_)|(with_reducible refine br_f ?_)|(with_reducible refine br_not ?_)|((with_reducible refine br_ne (fun hx=>?_) (fun hx=>?_))<;>(try (exfalso;first|omega|contradiction))))|((with_reducible refine cn_id ?_);(refine cn ‹_› ?_))|((with_reducible refine ldn_id ?_);(apply lda_hs hp;(focus repeat' constructor);exact rfl))|((with_reducible refine cl_id ?_);first|((refine cl_eq ((hnil _)) rfl rfl ?_;rintro e w ⟨rfl,hcc⟩;replace hp:=hp.call0 hcc;refine ⟨_,rfl,?_⟩))|((refine cl_eq (hsta hp (by simp) (by simp) (by simp)) rfl rfl ?_;rintro e w ⟨R,hR1,rfl,hms⟩;replace hp:=hp.add hms;replace hms:=hms.chg;refine ⟨_,rfl,?_⟩))|((refine cl_eq ((hsam hR1 hp (by simp))) rfl rfl ?_;rintro e w ⟨rfl,hcc⟩;replace hp:=hp.call0 hcc;refine ⟨_,rfl,?_⟩))|((refine cl_eq ((all_halted (hp.get (j:=2) rfl) hXh)) rfl rfl ?_;rintro e w ⟨rfl,hcc⟩;replace hp:=hp.call0 hcc;refine ⟨_,rfl,?_⟩)))|((with_reducible refine rd_id ?_);(apply rd_len;exact rfl;exact rfl;assumption)))<;>(conv=>whnf)))
  have hp0:Hp N0 w0 w [star (allRs bk X ⟨x.cfg.dep,x.ht,W⟩ mj ord l),cel b1 31 x.c.toArray]:=hp.pick [2,5] (by decide) rfl
  clear hp
  have hp:=hp0
  clear hp0
  obtain ⟨g1,g2⟩:=bjRs_at ((Hp.open (hp.get (j:=0) rfl)).get (j:=0) rfl)
  refine cl_eq (bjobs_any g1 g2 hJI (by omega)) rfl rfl ?_
  clear g1 g2
  rintro e w ⟨R2,hR2,rfl,hm⟩
  replace hp:=(hp.add hm).pick (rs':= [cel b1 31 x.c.toArray,star (jobRs R2)]) [2,0] (by decide) rfl
  clear hm
  refine ⟨_,rfl,?_⟩
  have hRl:R2.l.length≤600:=by
   have:=congrArg List.length hR2
   rw [List.length_map,List.length_map] at this
   omega
  ((conv=>whnf);repeat' (((with_reducible refine gen_id ?_);(apply gen_len;exact rfl;exact rfl;assumption))<;>(conv=>whnf)))
  refine lp_inv (α:=Nat) (fun i=> [(1,ptr b1),(57,R2.v),(58,i64 R2.l.length),(59,i64 i)]) (fun i w=>i≤R2.l.length∧Hp N0 w0 w [cel b1 31 x.c.toArray,star (jobRs R2)]) (fun i=>R2.l.length - i) 0 (by (repeat' (first|exact trivial|(refine ⟨rfl,?_⟩)))) ⟨by omega,hp⟩ ?_
  clear hp
  rintro i e0 w ⟨hi,hp⟩
  dsimp only at hi hp ⊢
  rcases Nat.lt_or_ge i R2.l.length with hlt|hge
  ·obtain ⟨b,o,y,hA,hbb,hrow,hyy⟩:=(jobRs_at (hp.get (j:=1) rfl)).1.has hlt
   clear hbb
   ((conv=>whnf);repeat' ((first|((with_reducible refine br_id ?_);((with_reducible refine br_dec (fun hx=>?_) (fun hx=>?_))<;>(try (exfalso;first|omega|contradiction))))|((with_reducible refine cn_id ?_);(refine cn rfl ?_))|((with_reducible refine ldn_id ?_);((refine ldn_rowat hrow i 0 (vs:=Job.c y) rfl hyy rfl rfl ?_)))|((with_reducible refine al_id ?_);(refine al_cel hp ?_;clear hp;intro bb w hp))|((with_reducible refine st_id ?_);(apply sta_hs hp;(focus repeat' constructor);exact rfl;exact rfl;clear hp;intro w hp;(try dsimp only [List.set] at hp)))|((with_reducible refine gen_id ?_);((refine gen_ixs rfl rfl hA rfl rfl (by omega) ?_))))<;>(conv=>whnf)))
   refine dr_autos [] 1000 tabOk (by kernel_rfl) (by decide+kernel) ?_
   replace hp:=hp.drew
   ((conv=>whnf);repeat' ((first|((with_reducible refine br_id ?_);first|(with_reducible refine br_f ?_)|((with_reducible refine br_eq (fun hx=>?_) (fun hx=>?_))<;>(try (exfalso;first|omega|contradiction))))|((with_reducible refine ar_id ?_);(refine ar_i64 (by omega) ?_))|((with_reducible refine ld_id ?_);(apply ld_hs hp;(focus repeat' constructor);exact rfl)))<;>(conv=>whnf)))
   all_goals first
    |(exfalso;omega)
    |exact lp_next (i+1) (by show R2.l.length - (i+1) < R2.l.length - i;omega) (by (repeat' (first|exact trivial|(refine ⟨rfl,?_⟩)))) ⟨by show i+1≤_;omega,hp.tail⟩
  ·((conv=>whnf);repeat' ((first|((with_reducible refine br_id ?_);((with_reducible refine br_dec (fun hx=>?_) (fun hx=>?_))<;>(try (exfalso;first|omega|contradiction))))|((with_reducible refine cl_id ?_);((refine cl_eq ((alive34_any _)) rfl rfl ?_;rintro e w ⟨rfl,hcc⟩;replace hp:=hp.call0 hcc;refine ⟨_,rfl,?_⟩))))<;>(conv=>whnf)))
   exact ps_val (v':= .bool true) rfl ⟨rfl,hp.chg⟩
end Go.Proofs.YteabebmlclgakaaGreat
