/- MAuditTells28: Aud5, Aud6. -/
import Derived.Test.YteabebmlclgakaaGreatMAuditTells27
set_option linter.unusedSimpArgs false
set_option linter.unusedVariables false
/- Aud5: package audit: the rule mined. -/
namespace Go.Proofs.YteabebmlclgakaaGreat
open Go.RowKit
set_option maxRecDepth 100000
set_option maxHeartbeats 4000000
def mndJ (x:Sta) (j:Job):Bool:= !((stI x j.mined && !stT x j.mined (idsP j.pay)) && decide (j.mined.toNat≠0))
theorem amined_any {B:Nat} {w0:World} {x:Sta} (hs:StaAt B w0 x) (hBw:B≤w0.heap.size) (hf:FewI x):Calls Tryz.prog 149 #[x.v] w0 fun e w'=>e= .returned (.bool (x.jobs.l.all (mndJ x)))∧Chg N0 w0 w':=by
 have hp:=Hp.start (S:=N0) w0
 have hB:∀b,N0 b→B≤b:=fun _ hh=>hh.elim
 have u4:=Tryz.underlying29
 have f4:=hf.jobs
 refine calls_x (args:= [_]) tabOk Tryz.func149 Tryz.ntmps149 Tryz.results149 rfl (Nat.le_of_ble_eq_true rfl) ?_
 ((conv=>whnf);repeat' ((first|((with_reducible refine ld_id ?_);(apply ld_hs hp;(focus repeat' constructor);exact rfl))|((with_reducible refine al_id ?_);(refine al_cel hp ?_;clear hp;intro bb w hp))|((with_reducible refine gen_id ?_);(apply gen_len;exact rfl;exact rfl;assumption)))<;>(conv=>whnf)))
 obtain ⟨b1,hb1⟩:∃x,x=bb:=⟨_,rfl⟩
 subst hb1
 refine lp_inv (α:=Nat) (fun i=> [(1,ptr b1),(8,x.jobs.v),(9,i64 x.jobs.l.length),(10,i64 i)]) (fun i w=>i≤x.jobs.l.length∧(∀z∈x.jobs.l.take i,mndJ x z=true)∧Hp N0 w0 w [cel b1 31 x.c.toArray]) (fun i=>x.jobs.l.length - i) 0 (by (repeat' (first|exact trivial|(refine ⟨rfl,?_⟩)))) ⟨by omega,by simp,hp⟩ ?_
 clear hp
 rintro i e0 w ⟨hi,hall,hp⟩
 dsimp only at hi hall hp ⊢
 rcases Nat.lt_or_ge i x.jobs.l.length with hlt|hge
 ·obtain ⟨b,o,y,hA,hbb,hrow,hyy⟩:=hs.jobs.has hlt
  have hmem:=List.mem_of_getElem? hyy
  have hyp:=hs.pay y hmem
  have hyf:=hf.pay y hmem
  have hyl:(idsP y.pay).length≤20:=by show (y.pay.l.map _).length≤20;rw [List.length_map];exact (fewP_at hyf).2
  have hno:∀{w:World},mndJ x y=false→Chg N0 w0 w→Ending.returned (.bool false)= .returned (.bool (x.jobs.l.all (mndJ x)))∧Chg N0 w0 w:=fun hv hc=>⟨by rw [all_not hmem hv],hc⟩
  have hJ:mndJ x y= !((stI x y.mined && !stT x y.mined (idsP y.pay)) && decide (y.mined.toNat≠0)):=rfl
  obtain ⟨q1,hq1⟩:∃q,stI x y.mined=q:=⟨_,rfl⟩
  obtain ⟨q2,hq2⟩:∃q,stT x y.mined (idsP y.pay)=q:=⟨_,rfl⟩
  have hst:∀{w:World} {ids:Sl Id},ids.l=idsP y.pay→Hp N0 w0 w [rowR 44 32 Id.c ids,cel b1 31 x.c.toArray]∨(Chg N0 w0 w∧SlAt w.heap.size w Id.c 32 ids)→Calls Tryz.prog 205 #[x.v,u32 y.mined,ids.v] w fun e w'=>e= .returned (.tuple #[.bool q1, .bool q2])∧Chg N0 w w':=fun {w ids} hi hh=>by
   rcases hh with hh|⟨hc,ha⟩
   ·have:=astands_any (s:=ids) y.mined (hs.keep hh.chg hB) hf (hh.row (j:=0) rfl) (by rw [hi];omega)
    rwa [hi,hq1,hq2] at this
   ·have:=astands_any (s:=ids) y.mined (hs.keep hc hB) hf ha (by rw [hi];omega)
    rwa [hi,hq1,hq2] at this
  rw [hq1,hq2] at hJ
  ((conv=>whnf);repeat' ((first|((with_reducible refine br_id ?_);((with_reducible refine br_dec (fun hx=>?_) (fun hx=>?_))<;>(try (exfalso;first|omega|contradiction))))|((with_reducible refine cn_id ?_);(refine cn rfl ?_))|((with_reducible refine ldn_id ?_);((refine ldn_rowx hp hB ‹_› ‹_› _ rfl ‹_› rfl ?_)))|((with_reducible refine al_id ?_);(refine al_cel hp ?_;clear hp;intro bb w hp))|((with_reducible refine st_id ?_);(apply sta_hs hp;(focus repeat' constructor);exact rfl;exact rfl;clear hp;intro w hp;(try dsimp only [List.set] at hp)))|((with_reducible refine gen_id ?_);((refine gen_ixs rfl rfl ‹_› rfl rfl (by omega) ?_))))<;>(conv=>whnf)))
  obtain ⟨b4,hb4⟩:∃x,x=bb:=⟨_,rfl⟩
  subst hb4
  refine dr_cut (fun e w=>∃(ids:Sl Id) (e0:Nat→Value),ids.l=idsP y.pay∧e=eat [(1,ptr b1),(4,ptr b4),(5, .bool q1),(6, .bool q2),(8,x.jobs.v),(9,i64 x.jobs.l.length),(10,i64 i)] ⟨e0, []⟩∧Hp N0 w0 w [rowR 44 32 Id.c ids,cel b4 49 y.c.toArray,cel b1 31 x.c.toArray]) ?_ ?_
  ·refine dr_autos [] 1000 tabOk (by kernel_rfl) (by decide+kernel) ?_
   replace hp:=hp.drew
   ((conv=>whnf);repeat' ((first|((with_reducible refine cn_id ?_);(refine cn ‹_› ?_))|((with_reducible refine ld_id ?_);(apply ld_hs hp;(focus repeat' constructor);exact rfl))|((with_reducible refine ldn_id ?_);first|(apply lda_hs hp;(focus repeat' constructor);exact rfl)|(apply ldn_hs hp;(focus repeat' constructor);exact rfl;exact rfl))|((with_reducible refine cl_id ?_);first|((refine cl_eq (ids_any (hyp.keep hp.chg hB) (Nat.le_trans hBw hp.chg.size) hyf) rfl rfl ?_;rintro e w ⟨ids,hids,rfl,hm⟩;replace hp:=hp.add hm;replace hm:=hm.chg;refine ⟨_,rfl,?_⟩))|((refine cl_eq ((hst hids (.inr ⟨hp.chg,hp.row (j:=0) rfl⟩))) rfl rfl ?_;rintro e w ⟨rfl,hcc⟩;replace hp:=hp.call0 hcc;refine ⟨_,rfl,?_⟩))))<;>(conv=>whnf)))
   all_goals exact ⟨ids,_,hids,eat_holds (by (repeat' (first|exact trivial|(refine ⟨rfl,?_⟩)))),hp⟩
  clear hp
  rintro e w ⟨ids,e0,hids,rfl,hp⟩
  cases q1 with
  |false=>
   ((conv=>whnf);repeat' ((first|((with_reducible refine br_id ?_);(with_reducible refine br_f ?_))|((with_reducible refine ar_id ?_);(refine ar_i64 (by omega) ?_)))<;>(conv=>whnf)))
   exact lp_next (i+1) (by show x.jobs.l.length - (i+1) < x.jobs.l.length - i;omega) (by (repeat' (first|exact trivial|(refine ⟨rfl,?_⟩)))) ⟨by show i+1≤_;omega,all_snoc hall hyy hJ,hp.tail.tail⟩
  |true=>
   cases q2 with
   |true=>
    ((conv=>whnf);repeat' ((first|((with_reducible refine br_id ?_);first|(with_reducible refine br_t ?_)|(with_reducible refine br_f ?_)|(with_reducible refine br_not ?_))|((with_reducible refine ar_id ?_);(refine ar_i64 (by omega) ?_)))<;>(conv=>whnf)))
    exact lp_next (i+1) (by show x.jobs.l.length - (i+1) < x.jobs.l.length - i;omega) (by (repeat' (first|exact trivial|(refine ⟨rfl,?_⟩)))) ⟨by show i+1≤_;omega,all_snoc hall hyy hJ,hp.tail.tail⟩
   |false=>
    by_cases h0:y.mined.toNat=0
    ·rw [decide_eq_false (fun hh=>hh h0)] at hJ
     ((conv=>whnf);repeat' ((first|((with_reducible refine br_id ?_);first|(with_reducible refine br_t ?_)|(with_reducible refine br_f ?_)|(with_reducible refine br_not ?_)|((with_reducible refine br_ne (fun hx=>?_) (fun hx=>?_))<;>(try (exfalso;first|omega|contradiction))))|((with_reducible refine ar_id ?_);(refine ar_i64 (by omega) ?_))|((with_reducible refine ld_id ?_);(apply ld_hs hp;(focus repeat' constructor);exact rfl)))<;>(conv=>whnf)))
     all_goals first
      |exact lp_next (i+1) (by show x.jobs.l.length - (i+1) < x.jobs.l.length - i;omega) (by (repeat' (first|exact trivial|(refine ⟨rfl,?_⟩)))) ⟨by show i+1≤_;omega,all_snoc hall hyy hJ,hp.tail.tail⟩
      |omega
    ·rw [decide_eq_true h0] at hJ
     ((conv=>whnf);repeat' ((first|((with_reducible refine br_id ?_);first|(with_reducible refine br_t ?_)|(with_reducible refine br_f ?_)|(with_reducible refine br_not ?_)|((with_reducible refine br_ne (fun hx=>?_) (fun hx=>?_))<;>(try (exfalso;first|omega|contradiction))))|((with_reducible refine ld_id ?_);(apply ld_hs hp;(focus repeat' constructor);exact rfl)))<;>(conv=>whnf)))
     all_goals first
      |exact ps_val (v':= .bool false) rfl (hno hJ hp.chg)
      |omega
 ·((conv=>whnf);repeat' (((with_reducible refine br_id ?_);((with_reducible refine br_dec (fun hx=>?_) (fun hx=>?_))<;>(try (exfalso;first|omega|contradiction))))<;>(conv=>whnf)))
  exact ps_val (v':= .bool true) rfl ⟨by rw [all_end hall hge],hp.chg⟩
end Go.Proofs.YteabebmlclgakaaGreat
/- Aud6: package audit: the rule of blobs. Of states that are few. -/
namespace Go.Proofs.YteabebmlclgakaaGreat
open Go.RowKit
set_option maxRecDepth 100000
set_option maxHeartbeats 4000000
theorem byId_cons (y:Sess) (l:List Sess) (id:UInt32):byId (y::l) id=if id=y.id then some y else byId l id:=by
 unfold byId
 rw [List.find?_cons]
 by_cases h:y.id=id
 ·rw [decide_eq_true h,if_pos h.symm]
 ·rw [decide_eq_false h,if_neg fun e=>h e.symm]
theorem useOk_lt (seq:UInt32) (o:Option Sess):useOk seq o=decide (seq.toNat < ((o.map fun s:Sess=>s.used).getD 0).toNat):=by
 cases o with
 |none=>exact (decide_eq_false (by show ¬seq.toNat < 0;omega)).symm
 |some z=>rfl
theorem ablobs_any {B:Nat} {w0:World} {x:Sta} (hs:StaAt B w0 x) (hf:FewI x):Calls Tryz.prog 145 #[x.v] w0 fun e w'=>e= .returned (.bool (blobS x.ses.l (x.blobs.l.map Blob.p)))∧Chg N0 w0 w':=by
 have hp:=Hp.start (S:=N0) w0
 have hB:∀b,N0 b→B≤b:=fun _ hh=>hh.elim
 have u1:=Tryz.underlying27
 have u2:=Tryz.underlying28
 have u5:=Tryz.underlying38
 have um:=Tryz.underlying280
 have un:=Tryz.underlying281
 have f1:=hf.ses
 have f2:=hf.blobs
 refine calls_x (args:= [_]) tabOk Tryz.func145 Tryz.ntmps145 Tryz.results145 rfl (Nat.le_of_ble_eq_true rfl) ?_
 ((conv=>whnf);repeat' ((first|((with_reducible refine ar_id ?_);(refine ar_i64 (by omega) ?_))|((with_reducible refine ld_id ?_);(apply ld_hs hp;(focus repeat' constructor);exact rfl))|((with_reducible refine al_id ?_);(refine al_cel hp ?_;clear hp;intro bb w hp))|((with_reducible refine gen_id ?_);first|((refine gen_mmake rfl u32 u32 hp ?_);clear hp;intro bb w hp)|(apply gen_len;exact rfl;exact rfl;assumption)))<;>(conv=>whnf)))
 obtain ⟨m1,hm1⟩:∃x,x=bb:=⟨_,rfl⟩
 subst hm1
 obtain ⟨b1,hb1⟩:∃x,x=bb:=⟨_,rfl⟩
 subst hb1
 refine lp_inv (α:=Nat×List (UInt32×UInt32)) (fun a=> [(1,ptr b1),(3, .map (some m1)),(4,i64 ((a.1:Int) - 1))]) (fun a w=>a.1≤x.ses.l.length∧(∀id,a.2.lookup id=(byId (x.ses.l.drop a.1) id).map fun s:Sess=>s.used)∧Hp N0 w0 w [mapR u32 u32 m1 a.2,cel b1 31 x.c.toArray]) (fun a=>a.1) (x.ses.l.length, []) (by (repeat' (first|exact trivial|(refine ⟨rfl,?_⟩)))) ⟨Nat.le_refl _,fun id=>by rw [List.drop_length];rfl,hp⟩ ?_
 clear hp
 rintro ⟨k,L⟩ e0 w ⟨hk,hL,hp⟩
 dsimp only at hk hL hp ⊢
 cases k with
 |succ k=>
  obtain ⟨b,o,y,hA,hbb,hrow,hyy⟩:=hs.ses.has (i:=k) (by omega)
  have hk1:(((k+1:Nat):Int) - 1)=(k:Nat):=by omega
  have hdr:x.ses.l.drop k=y::x.ses.l.drop (k+1):=by
   have hl:k < x.ses.l.length:=by omega
   rw [List.drop_eq_getElem_cons hl]
   rw [List.getElem?_eq_getElem hl] at hyy
   rw [Option.some.inj hyy]
  rw [hk1]
  ((conv=>whnf);repeat' ((first|((with_reducible refine br_id ?_);((with_reducible refine br_dec (fun hx=>?_) (fun hx=>?_))<;>(try (exfalso;first|omega|contradiction))))|((with_reducible refine ar_id ?_);(refine ar_i64 (by omega) ?_))|((with_reducible refine ld_id ?_);first|((refine ld_row hp hB ‹_› ‹_› _ _ rfl ‹_› (by rfl) ?_))|(apply ld_hs hp;(focus repeat' constructor);exact rfl))|((with_reducible refine gen_id ?_);((refine gen_put rfl hp 0 rfl rfl u32K um (y.id) rfl (y.used) rfl ?_);clear hp;intro w hp))|((with_reducible refine dr_id ?_);(refine dr_auto tabOk (by kernel_rfl) (by decide+kernel) ?_;(try replace hp:=hp.drew)))|((with_reducible refine rd_id ?_);((refine rd_ixs rfl rfl ‹_› rfl rfl (by omega) ?_))))<;>(conv=>whnf)))
  refine lp_next (k,mput L y.id y.used) (by show k < k+1;omega) (by (repeat' (first|exact trivial|(refine ⟨rfl,?_⟩)))) ⟨by show k≤_;omega,fun id=>?_,hp⟩
  show (mput L y.id y.used).lookup id=_
  rw [lookup_mput,hL,hdr,byId_cons]
  by_cases h:id=y.id
  ·rw [if_pos h,if_pos h];rfl
  ·rw [if_neg h,if_neg h]
 |zero=>
 rw [List.drop_zero] at hL
 ((conv=>whnf);repeat' ((first|((with_reducible refine br_id ?_);((with_reducible refine br_dec (fun hx=>?_) (fun hx=>?_))<;>(try (exfalso;first|omega|contradiction))))|((with_reducible refine ld_id ?_);(apply ld_hs hp;(focus repeat' constructor);exact rfl))|((with_reducible refine gen_id ?_);first|((refine gen_mmake rfl Key.v Value.bool hp ?_);clear hp;intro bb w hp)|(apply gen_len;exact rfl;exact rfl;assumption)))<;>(conv=>whnf)))
 obtain ⟨m2,hm2⟩:∃x,x=bb:=⟨_,rfl⟩
 subst hm2
 refine lp_inv (α:=Nat×List (Key×Bool)) (fun a=> [(3, .map (some m1)),(5, .map (some m2)),(33,x.blobs.v),(34,i64 x.blobs.l.length),(35,i64 a.1)]) (fun a w=>a.1≤x.blobs.l.length∧(∀k,k < a.1→blobAt x.ses.l (x.blobs.l.map Blob.p) k=true)∧(∀k,(mlk a.2 k).getD false=decide (k∈((x.blobs.l.map Blob.p).take a.1).map (·.key)))∧Hp N0 w0 w [mapR Key.v Value.bool m2 a.2,mapR u32 u32 m1 L,cel b1 31 x.c.toArray]) (fun a=>x.blobs.l.length - a.1) (0, []) (by (repeat' (first|exact trivial|(refine ⟨rfl,?_⟩)))) ⟨by omega,fun k hk=>absurd hk (by omega),fun k=>by simp [mlk],hp⟩ ?_
 clear hp hk
 rintro ⟨i,M⟩ e0 w ⟨hi,hall,hM,hp⟩
 dsimp only at hi hall hM hp ⊢
 rcases Nat.lt_or_ge i x.blobs.l.length with hlt|hge
 ·obtain ⟨b,o,y,hA,hbb,hrow,hyy⟩:=hs.blobs.row.has hlt
  have hmem:=List.mem_of_getElem? hyy
  have hyd:=hf.data y hmem
  have hyp:(x.blobs.l.map Blob.p)[i]? =some y.p:=by rw [List.getElem?_map,hyy];rfl
  have hba:blobAt x.ses.l (x.blobs.l.map Blob.p) i=(useOk y.key.seq (byId x.ses.l y.key.ses) && decide (addE ((x.blobs.l.map Blob.p).take i) y.p=0)):=by unfold blobAt;rw [hyp];rfl
  obtain ⟨U,hU⟩:∃U:UInt32,(L.lookup y.key.ses).getD 0=U:=⟨_,rfl⟩
  have hU2:useOk y.key.seq (byId x.ses.l y.key.ses)=decide (y.key.seq.toNat < U.toNat):=by rw [useOk_lt,←hL,←hU]
  obtain ⟨q,hq⟩:∃q,(M.lookup y.key).getD false=q:=⟨_,rfl⟩
  have hq2:decide (y.key∈((x.blobs.l.map Blob.p).take i).map (·.key))=q:=by rw [←hM];exact hq
  have hno:∀{w:World},blobAt x.ses.l (x.blobs.l.map Blob.p) i=false→Chg N0 w0 w→Ending.returned (.bool false)= .returned (.bool (blobS x.ses.l (x.blobs.l.map Blob.p)))∧Chg N0 w0 w:=fun hn hc=>⟨by rw [show blobS x.ses.l (x.blobs.l.map Blob.p)=false from allR_no (by rw [List.length_map];exact hlt) hn],hc⟩
  have hnext:y.key.seq.toNat < U.toNat→y.data.l.length≤600→q=false→blobAt x.ses.l (x.blobs.l.map Blob.p) i=true:=fun g1 g2 g3=>by
   rw [hba,hU2,decide_eq_true g1,Bool.true_and]
   refine decide_eq_true ?_
   unfold addE
   rw [g3] at hq2
   have g4:¬y.p.key∈((x.blobs.l.map Blob.p).take i).map (·.key):=of_decide_eq_false hq2
   rw [if_neg (by show ¬600 < y.data.l.length;omega),if_neg g4]
  have hn1:¬y.key.seq.toNat < U.toNat→blobAt x.ses.l (x.blobs.l.map Blob.p) i=false:=fun g=>by rw [hba,hU2,decide_eq_false g,Bool.false_and]
  have hn2:¬y.data.l.length≤600→blobAt x.ses.l (x.blobs.l.map Blob.p) i=false:=fun g=>by
   rw [hba,decide_eq_false (fun h=>?_),Bool.and_false]
   unfold addE at h
   rw [if_pos (by show 600 < y.data.l.length;omega)] at h
   cases h
  have hn3:q=true→blobAt x.ses.l (x.blobs.l.map Blob.p) i=false:=fun g=>by
   rw [hba,decide_eq_false (fun h=>?_),Bool.and_false]
   unfold addE at h
   rw [g] at hq2
   have g2:y.p.key∈((x.blobs.l.map Blob.p).take i).map (·.key):=of_decide_eq_true hq2
   rw [if_pos g2] at h
   split at h<;>cases h
  subst hU
  by_cases g1:y.key.seq.toNat < ((L.lookup y.key.ses).getD 0).toNat
  ·by_cases g2:y.data.l.length≤600
   ·cases q with
    |false=>
     have hnx:=hnext g1 g2 rfl
     ((conv=>whnf);repeat' ((first|((with_reducible refine br_id ?_);first|((with_reducible refine br_0 hq ?_))|(with_reducible refine br_f ?_)|((with_reducible refine br_dec (fun hx=>?_) (fun hx=>?_))<;>(try (exfalso;first|omega|contradiction))))|((with_reducible refine ar_id ?_);(refine ar_i64 (by omega) ?_))|((with_reducible refine cn_id ?_);(refine cn rfl ?_))|((with_reducible refine ld_id ?_);(apply ld_hs hp;(focus repeat' constructor);exact rfl))|((with_reducible refine ldn_id ?_);first|((refine ldn_rowx hp hB ‹_› ‹_› _ rfl ‹_› rfl ?_))|(apply lda_hs hp;(focus repeat' constructor);exact rfl))|((with_reducible refine al_id ?_);(refine al_cel hp ?_;clear hp;intro bb w hp))|((with_reducible refine st_id ?_);(apply sta_hs hp;(focus repeat' constructor);exact rfl;exact rfl;clear hp;intro w hp;(try dsimp only [List.set] at hp)))|((with_reducible refine gen_id ?_);first|((refine gen_ixs rfl rfl ‹_› rfl rfl (by omega) ?_))|((refine gen_look rfl hp 3 rfl rfl u32K um (z:=(0:UInt32)) rfl _ rfl ?_))|((refine gen_look rfl hp 2 rfl rfl keyK un (z:=false) rfl _ rfl ?_))|((refine gen_put rfl hp 2 rfl rfl keyK un (y.key) rfl (true) rfl ?_);clear hp;intro w hp)|(apply gen_build;exact rfl;exact rfl)|(apply gen_len;exact rfl;exact rfl;assumption)))<;>(conv=>whnf)))
     all_goals first
      |omega
      |skip
     refine lp_next (i+1,mput M y.key true) (by show x.blobs.l.length - (i+1) < x.blobs.l.length - i;omega) (by (repeat' (first|exact trivial|(refine ⟨rfl,?_⟩)))) ⟨by show i+1≤_;omega,all_step hall hnx,fun k=>?_,hp.tail.tail⟩
     show (mlk (mput M y.key true) k).getD false=decide (k∈((x.blobs.l.map Blob.p).take (i+1)).map (·.key))
     rw [mlk,lookup_mput,List.take_add_one,hyp,List.map_append]
     by_cases h:k=y.key
     ·rw [if_pos h]
      exact (decide_eq_true (by rw [h];exact List.mem_append_right _ (by simp [Blob.p]))).symm
     ·rw [if_neg h]
      exact (hM k).trans (decide_eq_decide.2 (by simp [Blob.p,h]))
    |true=>
     have hnx:=hn3 rfl
     ((conv=>whnf);repeat' ((first|((with_reducible refine br_id ?_);first|((with_reducible refine br_1 hq ?_))|(with_reducible refine br_f ?_)|((with_reducible refine br_dec (fun hx=>?_) (fun hx=>?_))<;>(try (exfalso;first|omega|contradiction))))|((with_reducible refine cn_id ?_);(refine cn rfl ?_))|((with_reducible refine ld_id ?_);(apply ld_hs hp;(focus repeat' constructor);exact rfl))|((with_reducible refine ldn_id ?_);first|((refine ldn_rowx hp hB ‹_› ‹_› _ rfl ‹_› rfl ?_))|(apply lda_hs hp;(focus repeat' constructor);exact rfl))|((with_reducible refine al_id ?_);(refine al_cel hp ?_;clear hp;intro bb w hp))|((with_reducible refine st_id ?_);(apply sta_hs hp;(focus repeat' constructor);exact rfl;exact rfl;clear hp;intro w hp;(try dsimp only [List.set] at hp)))|((with_reducible refine gen_id ?_);first|((refine gen_ixs rfl rfl ‹_› rfl rfl (by omega) ?_))|((refine gen_look rfl hp 3 rfl rfl u32K um (z:=(0:UInt32)) rfl _ rfl ?_))|((refine gen_look rfl hp 2 rfl rfl keyK un (z:=false) rfl _ rfl ?_))|(apply gen_build;exact rfl;exact rfl)|(apply gen_len;exact rfl;exact rfl;assumption)))<;>(conv=>whnf)))
     all_goals first
      |omega
      |exact ps_val (v':= .bool false) rfl (hno hnx hp.chg)
   ·have hnx:=hn2 g2
    ((conv=>whnf);repeat' ((first|((with_reducible refine br_id ?_);first|(with_reducible refine br_t ?_)|(with_reducible refine br_f ?_)|((with_reducible refine br_dec (fun hx=>?_) (fun hx=>?_))<;>(try (exfalso;first|omega|contradiction))))|((with_reducible refine cn_id ?_);(refine cn rfl ?_))|((with_reducible refine ld_id ?_);(apply ld_hs hp;(focus repeat' constructor);exact rfl))|((with_reducible refine ldn_id ?_);((refine ldn_rowx hp hB ‹_› ‹_› _ rfl ‹_› rfl ?_)))|((with_reducible refine al_id ?_);(refine al_cel hp ?_;clear hp;intro bb w hp))|((with_reducible refine st_id ?_);(apply sta_hs hp;(focus repeat' constructor);exact rfl;exact rfl;clear hp;intro w hp;(try dsimp only [List.set] at hp)))|((with_reducible refine gen_id ?_);first|((refine gen_ixs rfl rfl ‹_› rfl rfl (by omega) ?_))|((refine gen_look rfl hp 3 rfl rfl u32K um (z:=(0:UInt32)) rfl _ rfl ?_))|(apply gen_build;exact rfl;exact rfl)|(apply gen_len;exact rfl;exact rfl;assumption)))<;>(conv=>whnf)))
    all_goals first
     |omega
     |exact ps_val (v':= .bool false) rfl (hno hnx hp.chg)
  ·have hnx:=hn1 g1
   ((conv=>whnf);repeat' ((first|((with_reducible refine br_id ?_);first|(with_reducible refine br_t ?_)|((with_reducible refine br_dec (fun hx=>?_) (fun hx=>?_))<;>(try (exfalso;first|omega|contradiction))))|((with_reducible refine cn_id ?_);(refine cn rfl ?_))|((with_reducible refine ld_id ?_);(apply ld_hs hp;(focus repeat' constructor);exact rfl))|((with_reducible refine ldn_id ?_);((refine ldn_rowx hp hB ‹_› ‹_› _ rfl ‹_› rfl ?_)))|((with_reducible refine al_id ?_);(refine al_cel hp ?_;clear hp;intro bb w hp))|((with_reducible refine st_id ?_);(apply sta_hs hp;(focus repeat' constructor);exact rfl;exact rfl;clear hp;intro w hp;(try dsimp only [List.set] at hp)))|((with_reducible refine gen_id ?_);first|((refine gen_ixs rfl rfl ‹_› rfl rfl (by omega) ?_))|((refine gen_look rfl hp 3 rfl rfl u32K um (z:=(0:UInt32)) rfl _ rfl ?_))|(apply gen_build;exact rfl;exact rfl)))<;>(conv=>whnf)))
   all_goals first
    |omega
    |exact ps_val (v':= .bool false) rfl (hno hnx hp.chg)
 ·have hbS:blobS x.ses.l (x.blobs.l.map Blob.p)=true:=allR_yes fun k hk=>hall k (by rw [List.length_map] at hk;omega)
  ((conv=>whnf);repeat' (((with_reducible refine br_id ?_);((with_reducible refine br_dec (fun hx=>?_) (fun hx=>?_))<;>(try (exfalso;first|omega|contradiction))))<;>(conv=>whnf)))
  exact ps_val (v':= .bool true) rfl ⟨by rw [hbS],hp.chg⟩
end Go.Proofs.YteabebmlclgakaaGreat
