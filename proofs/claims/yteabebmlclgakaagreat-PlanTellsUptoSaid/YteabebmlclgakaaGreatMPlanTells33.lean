/- MPlanTells33: DocR5, DocR, Plan5. -/
import Derived.Test.YteabebmlclgakaaGreatMPlanTells32
import Derived.Test.YteabebmlclgakaaGreatMPlanTells27
import Derived.Test.YteabebmlclgakaaGreatMPlanTells30
import Derived.Test.YteabebmlclgakaaGreatMPlanTells31
set_option linter.unusedSimpArgs false
set_option linter.unusedVariables false
/- DocR5: which jobs may be, by the document. Of states that are few. -/
namespace Go.Proofs.YteabebmlclgakaaGreat
open Go.RowKit
set_option maxRecDepth 100000
set_option maxHeartbeats 4000000
theorem rbre31_any {B:Nat} {w0:World} {x:Sta} (hs:StaAt B w0 x) (hf:FewI x) (hlv:∀j∈x.jobs.l, -9223372036854775808≤j.live∧j.live≤9223372036854775807):Calls Tryz.prog 57 #[x.v] w0 fun e w'=>e= .returned (.bool (jobS x.ht x.jobs.l))∧Chg N0 w0 w':=by
 have hp:=Hp.start (S:=N0) w0
 have hB:∀b,N0 b→B≤b:=fun _ hh=>hh.elim
 have u4:=Tryz.underlying29
 have f4:=hf.jobs
 have hle:=hs.jobs.le
 refine calls_x (args:= [_]) tabOk Tryz.func57 Tryz.ntmps57 Tryz.results57 rfl (Nat.le_of_ble_eq_true rfl) ?_
 ((conv=>whnf);repeat' (((with_reducible refine al_id ?_);(refine al_cel hp ?_;clear hp;intro bb w hp))<;>(conv=>whnf)))
 obtain ⟨b1,hb1⟩:∃x,x=bb:=⟨_,rfl⟩
 subst hb1
 refine lp_inv (α:=Nat) (fun i=> [(1,ptr b1),(3,i64 i)]) (fun i w=>i≤x.jobs.l.length∧(∀k,k < i→jobAt x.ht x.jobs.l k=true)∧Hp N0 w0 w [cel b1 31 x.c.toArray]) (fun i=>x.jobs.l.length - i) 0 (by (repeat' (first|exact trivial|(refine ⟨rfl,?_⟩)))) ⟨by omega,fun k hk=>absurd hk (by omega),hp⟩ ?_
 clear hp
 rintro i e0 w ⟨hi,hall,hp⟩
 dsimp only at hi hall hp ⊢
 rcases Nat.lt_or_ge i x.jobs.l.length with hlt|hge
 ·obtain ⟨b,o,y,hA,hbb,hrow,hyy⟩:=hs.jobs.has hlt
  have hmem:=List.mem_of_getElem? hyy
  have hno:∀{w:World},jobAt x.ht x.jobs.l i=false→Chg N0 w0 w→Ending.returned (.bool false)= .returned (.bool (jobS x.ht x.jobs.l))∧Chg N0 w0 w:=fun hn hc=>⟨by rw [show jobS x.ht x.jobs.l=false from allR_no hlt hn],hc⟩
  obtain ⟨q,hq⟩:∃q,rightJ y=q:=⟨_,rfl⟩
  have hrt:∀{w:World},Chg N0 w0 w→Calls Tryz.prog 100 #[y.v] w fun e w'=>e= .returned (.bool q)∧Chg N0 w w':=fun hc=>by rw [←hq];exact rjright29_any ((hs.pay y hmem).keep hc hB) (hlv y hmem)
  obtain ⟨m,hm⟩:∃m,fndBy (fun j:Job=>decide (j.key=y.key)) (x.jobs.l.take i)=m:=⟨_,rfl⟩
  have hfd:∀{w:World},Chg N0 w0 w→Calls Tryz.prog 101 #[(x.jobs.cut 38 0 i).v,y.key.v] w fun e w'=>e= .returned (i64 m)∧Chg N0 w w':=fun hc=>by
   have:=rjfind29_any ((hs.jobs.cut (lo:=0) (hi:=i) (by omega) (by omega)).keep hc hB) y.key
   rw [take_cut,hm] at this
   exact this
  have hmm:0≤m↔y.key∈(x.jobs.l.take i).map (·.key):=by
   rw [←hm,fndBy_ge,List.mem_map]
   simp only [decide_eq_true_eq]
  have hja:jobAt x.ht x.jobs.l i=(q && decide ((y.height.toNat≤x.ht.toNat∧y.mined.toNat≤x.ht.toNat)∧¬0≤m)):=by
   unfold jobAt
   rw [hyy]
   dsimp only
   rw [hq]
   refine congrArg (q && ·) (decide_eq_decide.2 ?_)
   rw [hmm]
  cases q with
  |false=>
   rw [Bool.false_and] at hja
   ((conv=>whnf);repeat' ((first|((with_reducible refine br_id ?_);((with_reducible refine br_dec (fun hx=>?_) (fun hx=>?_))<;>(try (exfalso;first|omega|contradiction))))|((with_reducible refine cn_id ?_);(refine cn rfl ?_))|((with_reducible refine ld_id ?_);(apply ld_hs hp;(focus repeat' constructor);exact rfl))|((with_reducible refine ldn_id ?_);((refine ldn_rowx hp hB ‹_› ‹_› _ rfl ‹_› rfl ?_)))|((with_reducible refine al_id ?_);(refine al_cel hp ?_;clear hp;intro bb w hp))|((with_reducible refine st_id ?_);(apply sta_hs hp;(focus repeat' constructor);exact rfl;exact rfl;clear hp;intro w hp;(try dsimp only [List.set] at hp)))|((with_reducible refine gen_id ?_);first|((refine gen_ixs rfl rfl ‹_› rfl rfl (by omega) ?_))|(apply gen_len;exact rfl;exact rfl;assumption)))<;>(conv=>whnf)))
   refine dr_autos [] 1000 tabOk (by kernel_rfl) (by decide+kernel) ?_
   replace hp:=hp.drew
   ((conv=>whnf);repeat' ((first|((with_reducible refine br_id ?_);first|(with_reducible refine br_t ?_)|(with_reducible refine br_f ?_)|(with_reducible refine br_not ?_))|((with_reducible refine cn_id ?_);(refine cn ‹_› ?_))|((with_reducible refine ldn_id ?_);(apply lda_hs hp;(focus repeat' constructor);exact rfl))|((with_reducible refine cl_id ?_);((refine cl_eq ((hrt hp.chg)) rfl rfl ?_;rintro e w ⟨rfl,hcc⟩;replace hp:=hp.call0 hcc;refine ⟨_,rfl,?_⟩))))<;>(conv=>whnf)))
   all_goals exact ps_val (v':= .bool false) rfl (hno hja hp.chg)
  |true=>
   rw [Bool.true_and] at hja
   ((conv=>whnf);repeat' ((first|((with_reducible refine br_id ?_);((with_reducible refine br_dec (fun hx=>?_) (fun hx=>?_))<;>(try (exfalso;first|omega|contradiction))))|((with_reducible refine cn_id ?_);(refine cn rfl ?_))|((with_reducible refine ld_id ?_);(apply ld_hs hp;(focus repeat' constructor);exact rfl))|((with_reducible refine ldn_id ?_);((refine ldn_rowx hp hB ‹_› ‹_› _ rfl ‹_› rfl ?_)))|((with_reducible refine al_id ?_);(refine al_cel hp ?_;clear hp;intro bb w hp))|((with_reducible refine st_id ?_);(apply sta_hs hp;(focus repeat' constructor);exact rfl;exact rfl;clear hp;intro w hp;(try dsimp only [List.set] at hp)))|((with_reducible refine gen_id ?_);first|((refine gen_ixs rfl rfl ‹_› rfl rfl (by omega) ?_))|(apply gen_len;exact rfl;exact rfl;assumption)))<;>(conv=>whnf)))
   refine dr_autos [] 1000 tabOk (by kernel_rfl) (by decide+kernel) ?_
   replace hp:=hp.drew
   ((conv=>whnf);repeat' ((first|((with_reducible refine br_id ?_);first|(with_reducible refine br_t ?_)|(with_reducible refine br_f ?_)|(with_reducible refine br_not ?_)|((with_reducible refine br_dec (fun hx=>?_) (fun hx=>?_))<;>(try (exfalso;first|omega|contradiction))))|((with_reducible refine ar_id ?_);(refine ar_i64 (by omega) ?_))|((with_reducible refine cn_id ?_);(refine cn ‹_› ?_))|((with_reducible refine ld_id ?_);(apply ld_hs hp;(focus repeat' constructor);exact rfl))|((with_reducible refine ldn_id ?_);first|(apply lda_hs hp;(focus repeat' constructor);exact rfl)|(apply ldn_hs hp;(focus repeat' constructor);exact rfl;exact rfl))|((with_reducible refine cl_id ?_);first|((refine cl_eq ((hrt hp.chg)) rfl rfl ?_;rintro e w ⟨rfl,hcc⟩;replace hp:=hp.call0 hcc;refine ⟨_,rfl,?_⟩))|((refine cl_eq ((hfd hp.chg)) rfl rfl ?_;rintro e w ⟨rfl,hcc⟩;replace hp:=hp.call0 hcc;refine ⟨_,rfl,?_⟩)))|((with_reducible refine rd_id ?_);((refine rd_cuth rfl el_job x.jobs rfl hle rfl (h:=i) rfl (by omega) ?_))))<;>(conv=>whnf)))
   all_goals first
    |(refine ps_val (v':= .bool false) rfl (hno ?_ hp.chg)
      rw [hja,decide_eq_false_iff_not]
      omega)
    |(refine lp_next (i+1) (by show x.jobs.l.length - (i+1) < x.jobs.l.length - i;omega) (by (repeat' (first|exact trivial|(refine ⟨rfl,?_⟩)))) ⟨by show i+1≤_;omega,all_step hall ?_,hp.tail⟩
      rw [hja,decide_eq_true_eq]
      omega)
 ·((conv=>whnf);repeat' ((first|((with_reducible refine br_id ?_);((with_reducible refine br_dec (fun hx=>?_) (fun hx=>?_))<;>(try (exfalso;first|omega|contradiction))))|((with_reducible refine ld_id ?_);(apply ld_hs hp;(focus repeat' constructor);exact rfl))|((with_reducible refine gen_id ?_);(apply gen_len;exact rfl;exact rfl;assumption)))<;>(conv=>whnf)))
  exact ps_val (v':= .bool true) rfl ⟨by rw [show jobS x.ht x.jobs.l=true from allR_yes fun k hk=>hall k (by omega)],hp.chg⟩
end Go.Proofs.YteabebmlclgakaaGreat
/- DocR: which state may be, by the document. Of states that are few. -/
namespace Go.Proofs.YteabebmlclgakaaGreat
open Go.RowKit
set_option maxRecDepth 100000
set_option maxHeartbeats 4000000
theorem rchain31_any (w0:World) (x:Sta):Calls Tryz.prog 54 #[x.v] w0 fun e w'=>e= .returned (.agg #[i64 x.cfg.dep,u32 x.ht,x.win.v])∧Chg N0 w0 w':=by
 have hp:=Hp.start (S:=N0) w0
 refine calls_x (args:= [_]) tabOk Tryz.func54 Tryz.ntmps54 Tryz.results54 rfl (Nat.le_of_ble_eq_true rfl) ?_
 ((conv=>whnf);repeat' ((first|((with_reducible refine cn_id ?_);(refine cn rfl ?_))|((with_reducible refine ld_id ?_);(apply ld_hs hp;(focus repeat' constructor);exact rfl))|((with_reducible refine ldn_id ?_);(apply lda_hs hp;(focus repeat' constructor);exact rfl))|((with_reducible refine al_id ?_);(refine al_cel hp ?_;clear hp;intro bb w hp))|((with_reducible refine st_id ?_);(apply sta_hs hp;(focus repeat' constructor);exact rfl;exact rfl;clear hp;intro w hp;(try dsimp only [List.set] at hp)))|((with_reducible refine gen_id ?_);(apply gen_build;exact rfl;exact rfl)))<;>(conv=>whnf)))
 exact ps_val (v':= .agg #[i64 x.cfg.dep,u32 x.ht,x.win.v]) rfl ⟨rfl,hp.chg⟩
theorem rright31_any {B:Nat} {w0:World} {x:Sta} (hs:StaAt B w0 x) (hf:FewI x) (hlv:∀j∈x.jobs.l, -9223372036854775808≤j.live∧j.live≤9223372036854775807):Calls Tryz.prog 14 #[x.v] w0 fun e w'=>e= .returned (.bool (rightS x))∧Chg N0 w0 w':=by
 have hp:=Hp.start (S:=N0) w0
 have hB:∀b,N0 b→B≤b:=fun _ hh=>hh.elim
 obtain ⟨q1,h1⟩:∃q,soundC x.cfg=q:=⟨_,rfl⟩
 obtain ⟨q3,h3⟩:∃q,chS x.cfg.dep x.ht x.win.l=q:=⟨_,rfl⟩
 obtain ⟨q4,h4⟩:∃q,sesS x.next x.cfg.ses x.ses.l=q:=⟨_,rfl⟩
 obtain ⟨q5,h5⟩:∃q,blobS x.ses.l (x.blobs.l.map Blob.p)=q:=⟨_,rfl⟩
 obtain ⟨q6,h6⟩:∃q,jobS x.ht x.jobs.l=q:=⟨_,rfl⟩
 have c1:∀{w:World},Chg N0 w0 w→Calls Tryz.prog 52 #[x.cfg.v] w fun e w'=>e= .returned (.bool q1)∧Chg N0 w w':=fun hc=>by rw [←h1];exact rsound31_any _ _
 have c3:∀{w:World},Chg N0 w0 w→Calls Tryz.prog 53 #[.agg #[i64 x.cfg.dep,u32 x.ht,x.win.v]] w fun e w'=>e= .returned (.bool q3)∧Chg N0 w w':=fun hc=>by
  rw [←h3]
  have t:=hs.keep hc hB
  exact rright26_any _ _ t.win t.tx (by have:=hf.win;omega)
 have c4:∀{w:World},Chg N0 w0 w→Calls Tryz.prog 55 #[x.v] w fun e w'=>e= .returned (.bool q4)∧Chg N0 w w':=fun hc=>by rw [←h4];exact rses31_any (hs.keep hc hB) hf
 have c5:∀{w:World},Chg N0 w0 w→Calls Tryz.prog 56 #[x.v] w fun e w'=>e= .returned (.bool q5)∧Chg N0 w w':=fun hc=>by rw [←h5];exact rblobs31_any (hs.keep hc hB) hf
 have c6:∀{w:World},Chg N0 w0 w→Calls Tryz.prog 57 #[x.v] w fun e w'=>e= .returned (.bool q6)∧Chg N0 w w':=fun hc=>by rw [←h6];exact rbre31_any (hs.keep hc hB) hf hlv
 have hR:rightS x=(q1 && (decide (x.halt=0∨x.halt=19∨x.halt=20∨x.halt=16) && (q3 && (q4 && (q5 && q6))))):=by unfold rightS haltE;rw [h1,h3,h4,h5,h6]
 rw [hR]
 clear hR h1 h3 h4 h5 h6
 by_cases hH:x.halt=0∨x.halt=19∨x.halt=20∨x.halt=16
 ·rw [decide_eq_true hH,Bool.true_and]
  refine calls_x (args:= [_]) tabOk Tryz.func14 Tryz.ntmps14 Tryz.results14 rfl (Nat.le_of_ble_eq_true rfl) ?_
  ((conv=>whnf);repeat' ((first|((with_reducible refine br_id ?_);first|(with_reducible refine br_t ?_)|(with_reducible refine br_f ?_)|((with_reducible refine br_eq (fun hx=>?_) (fun hx=>?_))<;>(try (exfalso;first|omega|contradiction)))|((with_reducible refine br_s (fun hx=>?_) (fun hx=>?_))<;>(try (exfalso;first|omega|contradiction))))|((with_reducible refine ld_id ?_);(apply ld_hs hp;(focus repeat' constructor);exact rfl))|((with_reducible refine ldn_id ?_);first|(apply lda_hs hp;(focus repeat' constructor);exact rfl)|(apply ldn_hs hp;(focus repeat' constructor);exact rfl;exact rfl))|((with_reducible refine al_id ?_);(refine al_cel hp ?_;clear hp;intro bb w hp))|((with_reducible refine cl_id ?_);first|((refine cl_eq ((c1 hp.chg)) rfl rfl ?_;rintro e w ⟨rfl,hcc⟩;replace hp:=hp.call0 hcc;refine ⟨_,rfl,?_⟩))|((refine cl_eq ((rchain31_any _ x)) rfl rfl ?_;rintro e w ⟨rfl,hcc⟩;replace hp:=hp.call0 hcc;refine ⟨_,rfl,?_⟩))|((refine cl_eq ((c3 hp.chg)) rfl rfl ?_;rintro e w ⟨rfl,hcc⟩;replace hp:=hp.call0 hcc;refine ⟨_,rfl,?_⟩))|((refine cl_eq ((c4 hp.chg)) rfl rfl ?_;rintro e w ⟨rfl,hcc⟩;replace hp:=hp.call0 hcc;refine ⟨_,rfl,?_⟩))|((refine cl_eq ((c5 hp.chg)) rfl rfl ?_;rintro e w ⟨rfl,hcc⟩;replace hp:=hp.call0 hcc;refine ⟨_,rfl,?_⟩))|((refine cl_eq ((c6 hp.chg)) rfl rfl ?_;rintro e w ⟨rfl,hcc⟩;replace hp:=hp.call0 hcc;refine ⟨_,rfl,?_⟩))))<;>(conv=>whnf)))
  all_goals first
   |(exfalso;omega)
   |exact ps_val (v':= .bool q6) rfl ⟨by simp_all,hp.chg⟩
   |exact ps_val (v':= .bool false) rfl ⟨by simp_all,hp.chg⟩
 ·rw [decide_eq_false hH,Bool.false_and,Bool.and_false]
  refine calls_x (args:= [_]) tabOk Tryz.func14 Tryz.ntmps14 Tryz.results14 rfl (Nat.le_of_ble_eq_true rfl) ?_
  ((conv=>whnf);repeat' ((first|((with_reducible refine br_id ?_);first|(with_reducible refine br_t ?_)|(with_reducible refine br_f ?_)|((with_reducible refine br_eq (fun hx=>?_) (fun hx=>?_))<;>(try (exfalso;first|omega|contradiction)))|((with_reducible refine br_s (fun hx=>?_) (fun hx=>?_))<;>(try (exfalso;first|omega|contradiction))))|((with_reducible refine ld_id ?_);(apply ld_hs hp;(focus repeat' constructor);exact rfl))|((with_reducible refine ldn_id ?_);first|(apply lda_hs hp;(focus repeat' constructor);exact rfl)|(apply ldn_hs hp;(focus repeat' constructor);exact rfl;exact rfl))|((with_reducible refine al_id ?_);(refine al_cel hp ?_;clear hp;intro bb w hp))|((with_reducible refine cl_id ?_);first|((refine cl_eq ((c1 hp.chg)) rfl rfl ?_;rintro e w ⟨rfl,hcc⟩;replace hp:=hp.call0 hcc;refine ⟨_,rfl,?_⟩))|((refine cl_eq ((rchain31_any _ x)) rfl rfl ?_;rintro e w ⟨rfl,hcc⟩;replace hp:=hp.call0 hcc;refine ⟨_,rfl,?_⟩))|((refine cl_eq ((c3 hp.chg)) rfl rfl ?_;rintro e w ⟨rfl,hcc⟩;replace hp:=hp.call0 hcc;refine ⟨_,rfl,?_⟩))))<;>(conv=>whnf)))
  all_goals first
   |(exfalso;omega)
   |exact ps_val (v':= .bool false) rfl ⟨rfl,hp.chg⟩
end Go.Proofs.YteabebmlclgakaaGreat
/- Plan5: the document's plan, and what it costs. Of states of a bounded bulk, and of at most 300 blocks. -/
namespace Go.Proofs.YteabebmlclgakaaGreat
open Go.RowKit
set_option maxRecDepth 100000
set_option maxHeartbeats 4000000
section
variable {B : Nat} {w0 : World} {x : Sta}
theorem sentJ_map (ht:UInt32) (stp:Int) (l:List Job):(l.map (sentB ht stp)).map Job.p=sentP ht stp (l.map Job.p):=by
 unfold sentP
 rw [List.map_map,List.map_map]
 exact List.map_congr_left fun j _=>sentB_p ht stp j
theorem doc_perm {A B:List Res} {j c o:Res}:(A++(j::c::o::B)).Perm (c::o::((B++A)++ [j])):=by
 refine List.perm_append_comm.trans ?_
 exact (List.perm_append_singleton j (c::o::(B++A))).symm
theorem rof_any (hs:StaAt B w0 x) (hBw:B≤w0.heap.size) (hf:FewI x) (hlv:∀j∈x.jobs.l, -9223372036854775808≤j.live∧j.live≤9223372036854775807) (hst: -9223372036854775808≤x.cfg.stp∧x.cfg.stp≤9223372036854775807) (n:Int) (hn: -9223372036854775808≤n∧n≤300):Calls Tryz.prog 38 #[x.v,i64 n] w0 fun e w'=>∃O:Sl Sub,O.l.map Sub.p=(planY x n.toNat).map (·.sub)∧e= .returned O.v∧Made (star (subRs O)) w0 w':=by
 have hp:=Hp.start (S:=N0) w0
 have hB:∀b,N0 b→B≤b:=fun _ hh=>hh.elim
 have us:=Tryz.underlying60
 have u4:=Tryz.underlying29
 have hht:=x.ht.toNat_lt
 have hrr:=fun {w:World} (hc:Chg N0 w0 w)=>rright31_any (hs.keep hc hB) hf hlv
 unfold planY
 obtain ⟨ok,hok⟩:∃q,okX x=q:=⟨_,rfl⟩
 rw [hok]
 unfold okX at hok
 obtain ⟨rt,hrs⟩:∃q,rightS x=q:=⟨_,rfl⟩
 rw [hrs] at hok hrr
 by_cases hgo:rt=true∧x.halt=0
 ·obtain ⟨rfl,hh⟩:=hgo
  rw [hh] at hok
  obtain rfl:true=ok:=hok
  rw [if_pos rfl,planB_doc]
  refine calls_x (args:= [_,_]) tabOk Tryz.func38 Tryz.ntmps38 Tryz.results38 rfl (Nat.le_of_ble_eq_true rfl) ?_
  ((conv=>whnf);repeat' ((first|((with_reducible refine br_id ?_);first|(with_reducible refine br_t ?_)|(with_reducible refine br_f ?_)|(with_reducible refine br_not ?_)|((with_reducible refine br_ne (fun hx=>?_) (fun hx=>?_))<;>(try (exfalso;first|omega|contradiction))))|((with_reducible refine ld_id ?_);(apply ld_hs hp;(focus repeat' constructor);exact rfl))|((with_reducible refine ldn_id ?_);(apply lda_hs hp;(focus repeat' constructor);exact rfl))|((with_reducible refine al_id ?_);(refine al_cel hp ?_;clear hp;intro bb w hp))|((with_reducible refine cl_id ?_);((refine cl_eq ((hrr hp.chg)) rfl rfl ?_;rintro e w ⟨rfl,hcc⟩;replace hp:=hp.call0 hcc;refine ⟨_,rfl,?_⟩))))<;>(conv=>whnf)))
  obtain ⟨b2,hb2⟩:∃b,b=bb:=⟨_,rfl⟩
  subst hb2
  have hp0:Hp N0 w0 w (cel b2 31 (Sta.c {x with ht:=x.ht,jobs:=x.jobs}).toArray::rowR 69 37 Sub.c Sl.nil::((Sl.nil:Sl Sub).l.map stxR++ [])):=(hp.nilRow 69 37 Sub.c).pick [1,0] (by decide) rfl
  clear hp
  refine lp_inv (α:=Nat×UInt32×Sl Job×Sl Sub×List Res) (fun a=> [(1,i64 n),(2,ptr b2),(5,a.2.2.2.1.v),(6,i64 a.1)])
   (fun a w=>a.1≤min n.toNat (4294967295 - x.ht.toNat)∧a.2.1.toNat=x.ht.toNat+a.1∧a.2.2.1.l.map Job.p=docJ x.cfg.stp x.ht (x.jobs.l.map Job.p) a.1∧a.2.2.2.1.l.map Sub.p=docO x.cfg.stp x.ht (x.jobs.l.map Job.p) a.1∧a.2.2.2.1.l.length≤600*a.1∧a.2.2.1.l.length=x.jobs.l.length∧(∀j∈a.2.2.1.l,PayAt B w0 j.pay∧fewP j.pay=true)∧(∀{w':World} {rs:List Res},Hp N0 w0 w' (rs++a.2.2.2.2)→SlAt w'.heap.size w' Job.c 38 a.2.2.1)∧Hp N0 w0 w (cel b2 31 (Sta.c {x with ht:=a.2.1,jobs:=a.2.2.1}).toArray::rowR 69 37 Sub.c a.2.2.2.1::(a.2.2.2.1.l.map stxR++a.2.2.2.2)))
   (fun a=>300 - a.1) (0,x.ht,x.jobs,Sl.nil, []) (by (repeat' (first|exact trivial|(refine ⟨rfl,?_⟩)))) ⟨Nat.zero_le _,rfl,(docJ_zero _ _ _).symm,rfl,Nat.zero_le _,rfl,fun j hj=>⟨hs.pay j hj,hf.pay j hj⟩,fun {w' rs} hq=>(hs.jobs.keep hq.chg hB).more (Nat.le_trans hBw hq.chg.size),hp0⟩ ?_
  clear hp0
  rintro ⟨i,h,J,O,jr⟩ e0 w ⟨hi,hh2,hJ,hO,hOl,hJl,hJp,hjr,hp⟩
  dsimp only at hi hh2 hJ hO hOl hJl hJp hjr hp ⊢
  have hhl:=h.toNat_lt
  by_cases hmore:(i:Int) < n∧h.toNat < 4294967295
  ·obtain ⟨y,hy⟩:∃y:UInt32,y=UInt32.ofNat (x.ht.toNat+1+i):=⟨_,rfl⟩
   have hyn:y.toNat=h.toNat+1:=by rw [hy,UInt32.toNat_ofNat',Nat.mod_eq_of_lt (by omega)];omega
   have ar_y:∀{f:Int→Prop},f (y.toNat:Int)→Ar .u32 ((h.toNat:Int)+1) f:=fun {f} hff=>ar_u32 (by omega) (by rw [hyn] at hff;exact hff)
   have hdJ:=docJ_succ x.cfg.stp x.ht (x.jobs.l.map Job.p) i
   have hdO:=docO_succ x.cfg.stp x.ht (x.jobs.l.map Job.p) i
   rw [←hy,←hJ] at hdJ hdO
   rw [←hO] at hdO
   have hX:FewI {x with ht:=y,jobs:=J}:=⟨hf.ses,hf.blobs,hf.win,by show J.l.length≤600;rw [hJl];exact hf.jobs,hf.data,hf.tx,fun j hj=>(hJp j hj).2⟩
   have hsta:∀{w:World} {rs:List Res},Hp N0 w0 w (rs++jr)→StaAt w.heap.size w {x with ht:=y,jobs:=J}:=fun {w rs} hq=>by
    have t:=(hs.keep hq.chg hB).more (Nat.le_trans hBw hq.chg.size)
    exact ⟨t.win,t.tx,t.ses,t.blobs,hjr hq,fun j hj=>((hJp j hj).1.keep hq.chg hB).more (Nat.le_trans hBw hq.chg.size)⟩
   have hc1:decide ((i:Int) < n)=true:=decide_eq_true hmore.1
   have hc2:decide ((h.toNat:Int) < 4294967295)=true:=decide_eq_true (by omega)
   ((conv=>whnf);repeat' ((first|((with_reducible refine br_id ?_);first|((with_reducible refine br_1 hc1 ?_))|((with_reducible refine br_1 hc2 ?_))|(with_reducible refine br_t ?_))|((with_reducible refine ar_id ?_);((refine ar_y ?_)))|((with_reducible refine cn_id ?_);(refine cn rfl ?_))|((with_reducible refine ld_id ?_);(apply ld_hs hp;(focus repeat' constructor);exact rfl))|((with_reducible refine ldn_id ?_);(apply lda_hs hp;(focus repeat' constructor);exact rfl))|((with_reducible refine st_id ?_);(apply st_hs hp;(focus repeat' constructor);exact rfl;exact rfl;clear hp;intro w hp;(try dsimp only [List.set] at hp))))<;>(conv=>whnf)))
   replace hp:Hp N0 w0 w ((cel b2 31 (Sta.c {x with ht:=y,jobs:=J}).toArray::rowR 69 37 Sub.c O::O.l.map stxR)++jr):=hp
   refine cl_eq (rall34_any (x:={x with ht:=y,jobs:=J}) (hsta hp) hX hst hh) rfl rfl ?_
   rintro e w ⟨J2,O2,hJ2,hO2,rfl,hm⟩
   replace hp:=(hp.add hm).unfold
   replace hp:Hp N0 w0 w (rowR 49 38 Job.c J2::star (subRs O2)::cel b2 31 (Sta.c {x with ht:=y,jobs:=J}).toArray::rowR 69 37 Sub.c O::(O.l.map stxR++jr)):=hp
   clear hm
   refine ⟨_,rfl,?_⟩
   have hO2l:O2.l.length≤600:=by
    have h1:=congrArg List.length hO2
    unfold subsP at h1
    have h2:=List.length_filterMap_le (subO y x.cfg.stp) (J.l.map Job.p)
    rw [List.length_map] at h1 h2
    have h3:=hf.jobs
    rw [h1]
    show (List.filterMap (subO y x.cfg.stp) (J.l.map Job.p)).length≤600
    omega
   ((conv=>whnf);repeat' ((first|((with_reducible refine ar_id ?_);((refine ar_n (i+1) (by omega) (by omega) ?_)))|((with_reducible refine cn_id ?_);(refine cn rfl ?_))|((with_reducible refine ldn_id ?_);(apply lda_hs hp;(focus repeat' constructor);exact rfl))|((with_reducible refine al_id ?_);(refine al_cel hp ?_;clear hp;intro bb w hp))|((with_reducible refine st_id ?_);(apply sta_hs hp;(focus repeat' constructor);exact rfl;exact rfl;clear hp;intro w hp;(try dsimp only [List.set] at hp)))|((with_reducible refine gen_id ?_);((refine gen_app (s:=O) rfl hp 4 rfl el_sub rfl O2 rfl (rowR_at ((Hp.open (hp.get (j:=2) rfl)).get (j:=0) rfl)) (fun _ _=>rfl) sub_one (by omega) (by simp only [maxLen];omega) ?_);clear hp;intro A3 c3 w hp;dsimp only [List.set] at hp)))<;>(conv=>whnf)))
   have h5:Hp N0 w0 w (star (subRs O2)::rowR 49 38 Job.c J2::cel b2 31 (Sta.c {x with ht:=y,jobs:=J2}).toArray::rowR 69 37 Sub.c ⟨A3,c3,O.l++O2.l⟩::O.l.map stxR):=(hp.tail.sub (rs':=rowR 49 38 Job.c J2::star (subRs O2)::cel b2 31 (Sta.c {x with ht:=y,jobs:=J2}).toArray::rowR 69 37 Sub.c ⟨A3,c3,O.l++O2.l⟩::O.l.map stxR) (.cons_cons _ (.cons_cons _ (.cons_cons _ (.cons_cons _ (List.sublist_append_left _ _)))))).perm (.swap ..)
   have h6:=h5.unfold.tail
   have h7:Hp N0 w0 w (cel b2 31 (Sta.c {x with ht:=y,jobs:=J2}).toArray::rowR 69 37 Sub.c ⟨A3,c3,O.l++O2.l⟩::((O.l++O2.l).map stxR++ [rowR 49 38 Job.c J2])):=by
    rw [List.map_append]
    exact h6.perm doc_perm
   exact lp_next (i+1,y,J2,⟨A3,c3,O.l++O2.l⟩, [rowR 49 38 Job.c J2]) (by show 300 - (i+1) < 300 - i;omega) (by (repeat' (first|exact trivial|(refine ⟨rfl,?_⟩)))) ⟨by show i+1≤_;omega,by show y.toNat=x.ht.toNat+(i+1);omega,by show J2.l.map Job.p=_;rw [hdJ,hJ2];exact sentJ_map _ _ _,by show (O.l++O2.l).map Sub.p=_;rw [List.map_append,hdO,hO2],by show (O.l++O2.l).length≤600*(i+1);rw [List.length_append];omega,by show J2.l.length=_;rw [hJ2,List.length_map];exact hJl,fun j hj=>(by
    rw [show (i+1,y,J2,(⟨A3,c3,O.l++O2.l⟩:Sl Sub), [rowR 49 38 Job.c J2]).2.2.1=J2 from rfl,hJ2] at hj
    obtain ⟨k,hk,rfl⟩:=List.mem_map.1 hj
    rw [sentB_pay]
    exact hJp k hk),fun {w' rs} hq=>rowR_at (hq.ok (rowR 49 38 Job.c J2) (List.mem_append_right _ (List.mem_singleton_self _))),h7⟩
  ·have hii:i=min n.toNat (4294967295 - x.ht.toNat):=by omega
   by_cases hin:(i:Int) < n
   ·have hc1:decide ((i:Int) < n)=true:=decide_eq_true hin
    have hc2:decide ((h.toNat:Int) < 4294967295)=false:=decide_eq_false (by omega)
    ((conv=>whnf);repeat' ((first|((with_reducible refine br_id ?_);first|((with_reducible refine br_1 hc1 ?_))|((with_reducible refine br_0 hc2 ?_))|(with_reducible refine br_t ?_))|((with_reducible refine ld_id ?_);(apply ld_hs hp;(focus repeat' constructor);exact rfl)))<;>(conv=>whnf)))
    exact ps_val (v':=O.v) rfl ⟨O,by rw [hO,hii],rfl,(hp.sub (rs':=subRs O) (.cons _ (.cons_cons _ (List.sublist_append_left _ _)))).made (.refl _)⟩
   ·have hc1:decide ((i:Int) < n)=false:=decide_eq_false hin
    ((conv=>whnf);repeat' (((with_reducible refine br_id ?_);first|((with_reducible refine br_0 hc1 ?_))|(with_reducible refine br_f ?_))<;>(conv=>whnf)))
    exact ps_val (v':=O.v) rfl ⟨O,by rw [hO,hii],rfl,(hp.sub (rs':=subRs O) (.cons _ (.cons_cons _ (List.sublist_append_left _ _)))).made (.refl _)⟩
 ·have hokf:ok=false:=by
   rw [←hok]
   cases rt with
   |false=>rfl
   |true=>exact (Bool.true_and _).trans (decide_eq_false fun h=>hgo ⟨rfl,h⟩)
  rw [hokf,if_neg (by decide)]
  have hres:∀{w:World} {rs:List Res},Hp N0 w0 w rs→Made (star (subRs Sl.nil)) w0 w:=fun hp=>((hp.nilRow 69 37 Sub.c).pick (rs':=subRs Sl.nil) [0] (by simp) rfl).made (.refl _)
  cases rt with
  |false=>
   refine calls_x (args:= [_,_]) tabOk Tryz.func38 Tryz.ntmps38 Tryz.results38 rfl (Nat.le_of_ble_eq_true rfl) ?_
   ((conv=>whnf);repeat' ((first|((with_reducible refine br_id ?_);first|(with_reducible refine br_t ?_)|(with_reducible refine br_f ?_)|(with_reducible refine br_not ?_))|((with_reducible refine ldn_id ?_);(apply lda_hs hp;(focus repeat' constructor);exact rfl))|((with_reducible refine al_id ?_);(refine al_cel hp ?_;clear hp;intro bb w hp))|((with_reducible refine cl_id ?_);((refine cl_eq ((hrr hp.chg)) rfl rfl ?_;rintro e w ⟨rfl,hcc⟩;replace hp:=hp.call0 hcc;refine ⟨_,rfl,?_⟩))))<;>(conv=>whnf)))
   all_goals first
    |(exfalso;omega)
    |exact ps_val (v':= .slice none 0 0) rfl ⟨Sl.nil,rfl,rfl,hres hp⟩
  |true=>
   have hh:x.halt≠0:=fun h=>hgo ⟨rfl,h⟩
   refine calls_x (args:= [_,_]) tabOk Tryz.func38 Tryz.ntmps38 Tryz.results38 rfl (Nat.le_of_ble_eq_true rfl) ?_
   ((conv=>whnf);repeat' ((first|((with_reducible refine br_id ?_);first|(with_reducible refine br_t ?_)|(with_reducible refine br_f ?_)|(with_reducible refine br_not ?_)|((with_reducible refine br_ne (fun hx=>?_) (fun hx=>?_))<;>(try (exfalso;first|omega|contradiction))))|((with_reducible refine ld_id ?_);(apply ld_hs hp;(focus repeat' constructor);exact rfl))|((with_reducible refine ldn_id ?_);(apply lda_hs hp;(focus repeat' constructor);exact rfl))|((with_reducible refine al_id ?_);(refine al_cel hp ?_;clear hp;intro bb w hp))|((with_reducible refine cl_id ?_);((refine cl_eq ((hrr hp.chg)) rfl rfl ?_;rintro e w ⟨rfl,hcc⟩;replace hp:=hp.call0 hcc;refine ⟨_,rfl,?_⟩))))<;>(conv=>whnf)))
   all_goals first
    |(exfalso;omega)
    |exact ps_val (v':= .slice none 0 0) rfl ⟨Sl.nil,rfl,rfl,hres hp⟩
theorem fee_next {k:Key} {tier:Int} {L:List JobP} {i:Nat} {j:JobP} (h:L[i]? =some j):((L.take (i+1)).map (feeJ k tier)).sum=((L.take i).map (feeJ k tier)).sum+feeJ k tier j:=by
 rw [List.take_add_one,h,List.map_append,List.sum_append]
 simp
theorem rcost_any (hs:StaAt B w0 x) (hBw:B≤w0.heap.size) (hf:FewI x) {B':Nat} {l:Sl Sub} (hl:SlAt B' w0 Sub.c 37 l) (hll:l.l.length≤12000) (hti:∀s∈l.l,∀j∈x.jobs.l,j.key=s.key→0≤s.tier∧s.tier < (j.pay.l.length:Int)):Calls Tryz.prog 40 #[x.v,l.v] w0 fun e w'=>e= .returned (.int .u64 ((((l.l.map Sub.p).map (feeL (x.jobs.l.map Job.p))).sum:Nat):Int))∧Chg N0 w0 w':=by
 have hp:=Hp.start (S:=N0) w0
 have hB:∀b,N0 b→B≤b:=fun _ hh=>hh.elim
 have hB':∀b,N0 b→B'≤b:=fun _ hh=>hh.elim
 have us:=Tryz.underlying60
 have u4:=Tryz.underlying29
 have u1:=Tryz.underlying45
 have hJn:=hf.jobs
 obtain ⟨F,hF⟩:∃F:Nat,F=2576980377600:=⟨_,rfl⟩
 have hFi:∀i:Nat,i≤12000→i*F≤12000*F:=fun i h=>Nat.mul_le_mul_right _ h
 refine calls_x (args:= [_,_]) tabOk Tryz.func40 Tryz.ntmps40 Tryz.results40 rfl (Nat.le_of_ble_eq_true rfl) ?_
 ((conv=>whnf);repeat' (((with_reducible refine al_id ?_);(refine al_cel hp ?_;clear hp;intro bb w hp))<;>(conv=>whnf)))
 obtain ⟨b2,hb2⟩:∃b,b=bb:=⟨_,rfl⟩
 subst hb2
 refine lp_inv (α:=Nat×Nat) (fun a=> [(1,l.v),(2,ptr b2),(5, .int .u64 a.2),(6,i64 a.1)]) (fun a w=>a.1≤l.l.length∧a.2=(((l.l.take a.1).map Sub.p).map (feeL (x.jobs.l.map Job.p))).sum∧a.2≤a.1*F∧Hp N0 w0 w [cel b2 31 x.c.toArray]) (fun a=>l.l.length - a.1) (0,0) (by (repeat' (first|exact trivial|(refine ⟨rfl,?_⟩)))) ⟨Nat.zero_le _,rfl,Nat.zero_le _,hp⟩ ?_
 clear hp
 rintro ⟨i,N⟩ e0 w ⟨hi,hN,hNb,hp⟩
 dsimp only at hi hN hNb hp ⊢
 rcases Nat.lt_or_ge i l.l.length with hlt|hge
 ·obtain ⟨bs,os,s,hAs,hbs,hrows,hss⟩:=hl.has hlt
  have hsm:=List.mem_of_getElem? hss
  have hnx:(((l.l.take (i+1)).map Sub.p).map (feeL (x.jobs.l.map Job.p))).sum=N+((x.jobs.l.map Job.p).map (feeJ s.key s.tier)).sum:=by
   rw [List.take_add_one,hss,List.map_append,List.map_append,List.sum_append,←hN]
   simp [feeL]
  have hiF:=hFi i (by omega)
  ((conv=>whnf);repeat' ((first|((with_reducible refine br_id ?_);((with_reducible refine br_dec (fun hx=>?_) (fun hx=>?_))<;>(try (exfalso;first|omega|contradiction))))|((with_reducible refine gen_id ?_);(apply gen_len;exact rfl;exact rfl;assumption)))<;>(conv=>whnf)))
  refine lp_inv (α:=Nat×Nat) (fun a=> [(1,l.v),(2,ptr b2),(5, .int .u64 a.2),(6,i64 i),(7,i64 a.1)]) (fun a w=>a.1≤x.jobs.l.length∧a.2=N+(((x.jobs.l.map Job.p).take a.1).map (feeJ s.key s.tier)).sum∧a.2≤N+a.1*4294967296∧Hp N0 w0 w [cel b2 31 x.c.toArray]) (fun a=>x.jobs.l.length - a.1) (0,N) (by (repeat' (first|exact trivial|(refine ⟨rfl,?_⟩)))) ⟨Nat.zero_le _,rfl,Nat.le_add_right _ _,hp⟩ ?_
  clear hp
  rintro ⟨k,M⟩ e0 w ⟨hk,hM,hMb,hp⟩
  dsimp only at hk hM hMb hp ⊢
  rcases Nat.lt_or_ge k x.jobs.l.length with hk2|hk2
  ·obtain ⟨bj,oj,j,hAj,hbj,hrowj,hjj⟩:=hs.jobs.has hk2
   have hjm:=List.mem_of_getElem? hjj
   have hfn:=fee_next (k:=s.key) (tier:=s.tier) (L:=x.jobs.l.map Job.p) (i:=k) (j:=j.p) (by rw [List.getElem?_map,hjj];rfl)
   by_cases hky:j.key=s.key
   ·obtain ⟨t1,t2⟩:=hti s hsm j hjm hky
    obtain ⟨tn,htn⟩:∃tn:Nat,s.tier=tn:=⟨s.tier.toNat,by omega⟩
    obtain ⟨bt,ot,t,hAt,hbt,hrowt,htt⟩:=(hs.pay j hjm).row.has (i:=tn) (by omega)
    have hek:EqIs Tryz.prog 42 j.key.v s.key.v true:=by have:=eq_key j.key s.key;rwa [decide_eq_true hky] at this
    have htf:=t.fee.toNat_lt
    have hn1:(if BinOp.eql=BinOp.eql then true else !true)=true:=rfl
    have hfe:feeJ s.key s.tier j.p=t.fee.toNat:=by
     unfold feeJ
     rw [if_pos (show j.p.key=s.key from hky),htn,Int.toNat_natCast,show j.p.tiers[tn]? =some (tk t) by show (j.pay.l.map tk)[tn]? =_;rw [List.getElem?_map,htt];rfl]
     rfl
    rw [hfe] at hfn
    have ar_s:∀{f:Int→Prop},f ((M+t.fee.toNat:Nat):Int)→Ar .u64 ((M:Int)+(t.fee.toNat:Int)) f:=fun {f} hff=>ar_u64 (by omega) (by rw [←Int.natCast_add];exact hff)
    ((conv=>whnf);repeat' ((first|((with_reducible refine br_id ?_);first|((with_reducible refine br_1 hn1 ?_))|((with_reducible refine br_dec (fun hx=>?_) (fun hx=>?_))<;>(try (exfalso;first|omega|contradiction))))|((with_reducible refine ar_id ?_);first|((refine ar_n (k+1) (by omega) (by omega) ?_))|((refine ar_s ?_))|(refine ar_u64 (by omega) ?_))|((with_reducible refine ld_id ?_);first|((refine ld_row hp hB' hbs hrows i 35 rfl hss (by rfl) ?_))|((refine ld_row hp hB hbj hrowj k 37 rfl hjj (by rfl) ?_))|((refine ld_row hp hB hbt hrowt tn 0 (by rw [htn];rfl) htt rfl ?_))|(apply ld_hs hp;(focus repeat' constructor);exact rfl))|((with_reducible refine ldn_id ?_);first|((refine ldn_row0 hp hB hbj hrowj k rfl hjj (by rfl) (by rfl) ?_))|((refine ldn_row0 hp hB' hbs hrows i rfl hss (by rfl) (by rfl) ?_)))|((with_reducible refine gen_id ?_);(apply gen_len;exact rfl;exact rfl;assumption))|((with_reducible refine dr_id ?_);(refine dr_auto tabOk (by kernel_rfl) (by decide+kernel) ?_;(try replace hp:=hp.drew)))|((with_reducible refine rd_id ?_);first|((refine rd_ixs rfl rfl hAj rfl rfl (by omega) ?_))|((refine rd_ixs rfl rfl hAs rfl rfl (by omega) ?_))|((refine rd_ixs (sz:=2) (n0:=0) rfl rfl hAt rfl (by kernel_rfl) (by omega) ?_))|((refine rd_eqa rfl rfl rfl hek (by kernel_rfl) (.inl rfl) ?_))|((refine rd_conv tabOk rfl rfl rfl rfl ?_))))<;>(conv=>whnf)))
    all_goals exact lp_next (k+1,M+t.fee.toNat) (by show x.jobs.l.length - (k+1) < x.jobs.l.length - k;omega) (by (repeat' (first|exact trivial|(refine ⟨rfl,?_⟩)))) ⟨by show k+1≤_;omega,by show M+t.fee.toNat=_;rw [hfn,hM,Nat.add_assoc],by show M+t.fee.toNat≤N+(k+1)*4294967296;omega,hp⟩
   ·have hek:EqIs Tryz.prog 42 j.key.v s.key.v false:=by have:=eq_key j.key s.key;rwa [decide_eq_false hky] at this
    have hfe:feeJ s.key s.tier j.p=0:=if_neg hky
    have hn0:(if BinOp.eql=BinOp.eql then false else !false)=false:=rfl
    rw [hfe] at hfn
    have hM2:M=N+(((x.jobs.l.map Job.p).take (k+1)).map (feeJ s.key s.tier)).sum:=by rw [hfn];exact hM
    have hMb2:M≤N+(k+1)*4294967296:=Nat.le_trans hMb (Nat.add_le_add_left (Nat.mul_le_mul_right _ (Nat.le_succ k)) N)
    ((conv=>whnf);repeat' ((first|((with_reducible refine br_id ?_);first|((with_reducible refine br_0 hn0 ?_))|((with_reducible refine br_dec (fun hx=>?_) (fun hx=>?_))<;>(try (exfalso;first|omega|contradiction))))|((with_reducible refine ar_id ?_);((refine ar_n (k+1) (by omega) (by omega) ?_)))|((with_reducible refine ld_id ?_);(apply ld_hs hp;(focus repeat' constructor);exact rfl))|((with_reducible refine ldn_id ?_);first|((refine ldn_row0 hp hB hbj hrowj k rfl hjj (by rfl) (by rfl) ?_))|((refine ldn_row0 hp hB' hbs hrows i rfl hss (by rfl) (by rfl) ?_)))|((with_reducible refine gen_id ?_);(apply gen_len;exact rfl;exact rfl;assumption))|((with_reducible refine dr_id ?_);(refine dr_auto tabOk (by kernel_rfl) (by decide+kernel) ?_;(try replace hp:=hp.drew)))|((with_reducible refine rd_id ?_);first|((refine rd_ixs rfl rfl hAj rfl rfl (by omega) ?_))|((refine rd_ixs rfl rfl hAs rfl rfl (by omega) ?_))|((refine rd_eqa rfl rfl rfl hek (by kernel_rfl) (.inl rfl) ?_))))<;>(conv=>whnf)))
    all_goals exact lp_next (k+1,M) (by show x.jobs.l.length - (k+1) < x.jobs.l.length - k;omega) (by (repeat' (first|exact trivial|(refine ⟨rfl,?_⟩)))) ⟨by show k+1≤_;omega,hM2,hMb2,hp⟩
  ·rw [List.take_of_length_le (by rw [List.length_map];exact hk2)] at hM
   have hMF:M≤(i+1)*F:=by
    have h1:k*4294967296≤600*4294967296:=Nat.mul_le_mul_right _ (by omega)
    rw [Nat.succ_mul]
    omega
   have hMS:=hM.trans hnx.symm
   ((conv=>whnf);repeat' ((first|((with_reducible refine br_id ?_);((with_reducible refine br_dec (fun hx=>?_) (fun hx=>?_))<;>(try (exfalso;first|omega|contradiction))))|((with_reducible refine ar_id ?_);((refine ar_n (i+1) (by omega) (by omega) ?_)))|((with_reducible refine ld_id ?_);(apply ld_hs hp;(focus repeat' constructor);exact rfl))|((with_reducible refine gen_id ?_);(apply gen_len;exact rfl;exact rfl;assumption)))<;>(conv=>whnf)))
   exact lp_next (i+1,M) (by show l.l.length - (i+1) < l.l.length - i;omega) (by (repeat' (first|exact trivial|(refine ⟨rfl,?_⟩)))) ⟨by show i+1≤_;omega,hMS,hMF,hp⟩
 ·rw [List.take_of_length_le (by omega)] at hN
  ((conv=>whnf);repeat' ((first|((with_reducible refine br_id ?_);((with_reducible refine br_dec (fun hx=>?_) (fun hx=>?_))<;>(try (exfalso;first|omega|contradiction))))|((with_reducible refine gen_id ?_);(apply gen_len;exact rfl;exact rfl;assumption)))<;>(conv=>whnf)))
  subst hN
  exact ps_val (v':= .int .u64 _) rfl ⟨rfl,hp.chg⟩
end
end Go.Proofs.YteabebmlclgakaaGreat
