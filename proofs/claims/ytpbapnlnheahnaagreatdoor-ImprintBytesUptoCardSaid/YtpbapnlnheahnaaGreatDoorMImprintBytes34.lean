/- MImprintBytes34: parts of the proof of ImprintBytes: DocR5, DocR, Rdr9, Imp2, BlobSame. No condition of their own. -/
import Derived.Test.YtpbapnlnheahnaaGreatDoorMImprintBytes33
import Derived.Test.YtpbapnlnheahnaaGreatDoorMImprintBytes21
import Derived.Test.YtpbapnlnheahnaaGreatDoorMImprintBytes32
import Derived.Test.YtpbapnlnheahnaaGreatDoorMImprintBytes29
import Derived.Test.YtpbapnlnheahnaaGreatDoorMImprintBytes7
import Derived.Test.YtpbapnlnheahnaaGreatDoorMImprintBytes13
import Derived.Test.YtpbapnlnheahnaaGreatDoorMImprintBytes16
set_option linter.unusedSimpArgs false
set_option linter.unusedVariables false
namespace Go.Proofs.YtpbapnlnheahnaaGreatDoor
open Go.RowKit
set_option maxRecDepth 100000
set_option maxHeartbeats 4000000
theorem rbre31_any {B:Nat} {w0:World} {x:Sta} (hs:StaAt B w0 x) (hf:FewI x) (hlv:∀j∈x.jobs.l, -9223372036854775808≤j.live∧j.live≤9223372036854775807):Calls Tryz.prog 39 #[x.v] w0 fun e w'=>e= .returned (.bool (jobS x.ht x.jobs.l))∧Chg N0 w0 w':=by
 have hp:=Hp.start (S:=N0) w0
 have hB:∀b,N0 b→B≤b:=fun _ hh=>hh.elim
 have u4:=Tryz.underlying29
 have f4:=hf.jobs
 have hle:=hs.jobs.le
 refine calls_x (args:= [_]) tabOk Tryz.func39 Tryz.ntmps39 Tryz.results39 rfl (Nat.le_of_ble_eq_true rfl) ?_
 ((conv=>whnf);repeat' (((with_reducible apply al_id);refine al_cel hp ?_;clear hp;intro bb w hp)<;>(conv=>whnf)))
 obtain ⟨b1,hb1⟩:∃x,x=bb:=⟨_,rfl⟩
 subst hb1
 refine lp_inv (α:=Nat) (fun i=> [(1,ptr b1),(3,i64 i)]) (fun i w=>i≤x.jobs.l.length∧(∀k,k < i→jobAt x.ht x.jobs.l k=true)∧Hp N0 w0 w [cel b1 31 x.c.toArray]) (fun i=>x.jobs.l.length - i) 0 (by (repeat' (first|exact trivial|(refine ⟨rfl,?_⟩)))) ⟨by omega,fun k hk=>absurd hk (by omega),hp⟩ ?_
 clear hp
 rintro i e0 w ⟨hi,hall,hp⟩
 dsimp only at hi hall hp ⊢
 rcases Nat.lt_or_ge i x.jobs.l.length with hlt|hge
 ·obtain ⟨b,o,y,hA,hbb,hrow,hyy⟩:=hs.jobs.has hlt
  have hmem:=List.mem_of_getElem? hyy
  have hno:∀{w:World},jobAt x.ht x.jobs.l i=false→Chg N0 w0 w→Ending.returned (.bool false)= .returned (.bool (jobS x.ht x.jobs.l))∧Chg N0 w0 w:=fun hn hc=>⟨by rw [show jobS x.ht x.jobs.l=false from allR_no hlt hn],hc⟩
  obtain ⟨q,hq⟩:∃q,rightJ y=q:=⟨_,rfl⟩
  have hrt:∀{w:World},Chg N0 w0 w→Calls Tryz.prog 95 #[y.v] w fun e w'=>e= .returned (.bool q)∧Chg N0 w w':=fun hc=>by rw [←hq];exact rjright29_any ((hs.pay y hmem).keep hc hB) (hlv y hmem)
  obtain ⟨m,hm⟩:∃m,fndBy (fun j:Job=>decide (j.key=y.key)) (x.jobs.l.take i)=m:=⟨_,rfl⟩
  have hfd:∀{w:World},Chg N0 w0 w→Calls Tryz.prog 96 #[(x.jobs.cut 38 0 i).v,y.key.v] w fun e w'=>e= .returned (i64 m)∧Chg N0 w w':=fun hc=>by
   have:=rjfind29_any ((hs.jobs.cut (lo:=0) (hi:=i) (by omega) (by omega)).keep hc hB) y.key
   rw [take_cut,hm] at this
   exact this
  have hmm:0≤m↔y.key∈(x.jobs.l.take i).map (·.key):=by
   rw [←hm,fndBy_ge,List.mem_map]
   simp only [decide_eq_true_eq]
  have hja:jobAt x.ht x.jobs.l i=(q && decide ((y.height.toNat≤x.ht.toNat∧y.mined.toNat≤x.ht.toNat)∧¬0≤m)):=by
   unfold jobAt
   rw [hyy]
   dsimp only
   rw [hq]
   refine congrArg (q && ·) (decide_eq_decide.2 ?_)
   rw [hmm]
  cases q with
  |false=>
   rw [Bool.false_and] at hja
   ((conv=>whnf);repeat' ((first|((with_reducible apply br_id);(with_reducible refine br_dec (fun hx=>?_) (fun hx=>?_))<;>(try (exfalso;first|omega|contradiction)))|((with_reducible apply cn_id);refine cn rfl ?_)|((with_reducible apply ld_id);apply ld_hs hp;(focus repeat' constructor);exact rfl)|((with_reducible apply ldn_id);(refine ldn_rowx hp hB ‹_› ‹_› _ rfl ‹_› rfl ?_))|((with_reducible apply al_id);refine al_cel hp ?_;clear hp;intro bb w hp)|((with_reducible apply st_id);apply sta_hs hp;(focus repeat' constructor);exact rfl;exact rfl;clear hp;intro w hp;(try dsimp only [List.set] at hp))|((with_reducible apply gen_id);first|(refine gen_ixs rfl rfl ‹_› rfl rfl (by omega) ?_)|(apply gen_len;exact rfl;exact rfl;assumption)))<;>(conv=>whnf)))
   refine dr_autos [] 1000 tabOk (by kernel_rfl) (by decide+kernel) ?_
   replace hp:=hp.drew
   ((conv=>whnf);repeat' ((first|((with_reducible apply br_id);first|with_reducible refine br_t ?_|with_reducible refine br_f ?_|with_reducible refine br_not ?_)|((with_reducible apply cn_id);refine cn ‹_› ?_)|((with_reducible apply ldn_id);apply lda_hs hp;(focus repeat' constructor);exact rfl)|((with_reducible apply cl_id);(refine cl_eq ((hrt hp.chg)) rfl rfl ?_;rintro e w ⟨rfl,hcc⟩;replace hp:=hp.call0 hcc;refine ⟨_,rfl,?_⟩)))<;>(conv=>whnf)))
   all_goals exact ps_val (v':= .bool false) rfl (hno hja hp.chg)
  |true=>
   rw [Bool.true_and] at hja
   ((conv=>whnf);repeat' ((first|((with_reducible apply br_id);(with_reducible refine br_dec (fun hx=>?_) (fun hx=>?_))<;>(try (exfalso;first|omega|contradiction)))|((with_reducible apply cn_id);refine cn rfl ?_)|((with_reducible apply ld_id);apply ld_hs hp;(focus repeat' constructor);exact rfl)|((with_reducible apply ldn_id);(refine ldn_rowx hp hB ‹_› ‹_› _ rfl ‹_› rfl ?_))|((with_reducible apply al_id);refine al_cel hp ?_;clear hp;intro bb w hp)|((with_reducible apply st_id);apply sta_hs hp;(focus repeat' constructor);exact rfl;exact rfl;clear hp;intro w hp;(try dsimp only [List.set] at hp))|((with_reducible apply gen_id);first|(refine gen_ixs rfl rfl ‹_› rfl rfl (by omega) ?_)|(apply gen_len;exact rfl;exact rfl;assumption)))<;>(conv=>whnf)))
   refine dr_autos [] 1000 tabOk (by kernel_rfl) (by decide+kernel) ?_
   replace hp:=hp.drew
   ((conv=>whnf);repeat' ((first|((with_reducible apply br_id);first|with_reducible refine br_t ?_|with_reducible refine br_f ?_|with_reducible refine br_not ?_|((with_reducible refine br_dec (fun hx=>?_) (fun hx=>?_))<;>(try (exfalso;first|omega|contradiction))))|((with_reducible apply ar_id);refine ar_i64 (by omega) ?_)|((with_reducible apply cn_id);refine cn ‹_› ?_)|((with_reducible apply ld_id);apply ld_hs hp;(focus repeat' constructor);exact rfl)|((with_reducible apply ldn_id);first|(apply lda_hs hp;(focus repeat' constructor);exact rfl)|(apply ldn_hs hp;(focus repeat' constructor);exact rfl;exact rfl))|((with_reducible apply cl_id);first|((refine cl_eq ((hrt hp.chg)) rfl rfl ?_;rintro e w ⟨rfl,hcc⟩;replace hp:=hp.call0 hcc;refine ⟨_,rfl,?_⟩))|((refine cl_eq ((hfd hp.chg)) rfl rfl ?_;rintro e w ⟨rfl,hcc⟩;replace hp:=hp.call0 hcc;refine ⟨_,rfl,?_⟩)))|((with_reducible apply rd_id);(refine rd_cuth rfl el_job x.jobs rfl hle rfl (h:=i) rfl (by omega) ?_)))<;>(conv=>whnf)))
   all_goals first
    |(refine ps_val (v':= .bool false) rfl (hno ?_ hp.chg)
      rw [hja,decide_eq_false_iff_not]
      omega)
    |(refine lp_next (i+1) (by show x.jobs.l.length - (i+1) < x.jobs.l.length - i;omega) (by (repeat' (first|exact trivial|(refine ⟨rfl,?_⟩)))) ⟨by show i+1≤_;omega,all_step hall ?_,hp.tail⟩
      rw [hja,decide_eq_true_eq]
      omega)
 ·((conv=>whnf);repeat' ((first|((with_reducible apply br_id);(with_reducible refine br_dec (fun hx=>?_) (fun hx=>?_))<;>(try (exfalso;first|omega|contradiction)))|((with_reducible apply ld_id);apply ld_hs hp;(focus repeat' constructor);exact rfl)|((with_reducible apply gen_id);apply gen_len;exact rfl;exact rfl;assumption))<;>(conv=>whnf)))
  exact ps_val (v':= .bool true) rfl ⟨by rw [show jobS x.ht x.jobs.l=true from allR_yes fun k hk=>hall k (by omega)],hp.chg⟩
theorem rchain31_any (w0:World) (x:Sta):Calls Tryz.prog 36 #[x.v] w0 fun e w'=>e= .returned (.agg #[i64 x.cfg.dep,u32 x.ht,x.win.v])∧Chg N0 w0 w':=by
 have hp:=Hp.start (S:=N0) w0
 refine calls_x (args:= [_]) tabOk Tryz.func36 Tryz.ntmps36 Tryz.results36 rfl (Nat.le_of_ble_eq_true rfl) ?_
 ((conv=>whnf);repeat' ((first|((with_reducible apply cn_id);refine cn rfl ?_)|((with_reducible apply ld_id);apply ld_hs hp;(focus repeat' constructor);exact rfl)|((with_reducible apply ldn_id);apply lda_hs hp;(focus repeat' constructor);exact rfl)|((with_reducible apply al_id);refine al_cel hp ?_;clear hp;intro bb w hp)|((with_reducible apply st_id);apply sta_hs hp;(focus repeat' constructor);exact rfl;exact rfl;clear hp;intro w hp;(try dsimp only [List.set] at hp))|((with_reducible apply gen_id);apply gen_build;exact rfl;exact rfl))<;>(conv=>whnf)))
 exact ps_val (v':= .agg #[i64 x.cfg.dep,u32 x.ht,x.win.v]) rfl ⟨rfl,hp.chg⟩
theorem rright31_any {B:Nat} {w0:World} {x:Sta} (hs:StaAt B w0 x) (hf:FewI x) (hlv:∀j∈x.jobs.l, -9223372036854775808≤j.live∧j.live≤9223372036854775807):Calls Tryz.prog 14 #[x.v] w0 fun e w'=>e= .returned (.bool (rightS x))∧Chg N0 w0 w':=by
 have hp:=Hp.start (S:=N0) w0
 have hB:∀b,N0 b→B≤b:=fun _ hh=>hh.elim
 obtain ⟨q1,h1⟩:∃q,soundC x.cfg=q:=⟨_,rfl⟩
 obtain ⟨q3,h3⟩:∃q,chS x.cfg.dep x.ht x.win.l=q:=⟨_,rfl⟩
 obtain ⟨q4,h4⟩:∃q,sesS x.next x.cfg.ses x.ses.l=q:=⟨_,rfl⟩
 obtain ⟨q5,h5⟩:∃q,blobS x.ses.l (x.blobs.l.map Blob.p)=q:=⟨_,rfl⟩
 obtain ⟨q6,h6⟩:∃q,jobS x.ht x.jobs.l=q:=⟨_,rfl⟩
 have c1:∀{w:World},Chg N0 w0 w→Calls Tryz.prog 34 #[x.cfg.v] w fun e w'=>e= .returned (.bool q1)∧Chg N0 w w':=fun hc=>by rw [←h1];exact rsound31_any _ _
 have c3:∀{w:World},Chg N0 w0 w→Calls Tryz.prog 35 #[.agg #[i64 x.cfg.dep,u32 x.ht,x.win.v]] w fun e w'=>e= .returned (.bool q3)∧Chg N0 w w':=fun hc=>by
  rw [←h3]
  have t:=hs.keep hc hB
  exact rright26_any _ _ t.win t.tx (by have:=hf.win;omega)
 have c4:∀{w:World},Chg N0 w0 w→Calls Tryz.prog 37 #[x.v] w fun e w'=>e= .returned (.bool q4)∧Chg N0 w w':=fun hc=>by rw [←h4];exact rses31_any (hs.keep hc hB) hf
 have c5:∀{w:World},Chg N0 w0 w→Calls Tryz.prog 38 #[x.v] w fun e w'=>e= .returned (.bool q5)∧Chg N0 w w':=fun hc=>by rw [←h5];exact rblobs31_any (hs.keep hc hB) hf
 have c6:∀{w:World},Chg N0 w0 w→Calls Tryz.prog 39 #[x.v] w fun e w'=>e= .returned (.bool q6)∧Chg N0 w w':=fun hc=>by rw [←h6];exact rbre31_any (hs.keep hc hB) hf hlv
 have hR:rightS x=(q1 && (decide (x.halt=0∨x.halt=19∨x.halt=20∨x.halt=16) && (q3 && (q4 && (q5 && q6))))):=by unfold rightS haltE;rw [h1,h3,h4,h5,h6]
 rw [hR]
 clear hR h1 h3 h4 h5 h6
 by_cases hH:x.halt=0∨x.halt=19∨x.halt=20∨x.halt=16
 ·rw [decide_eq_true hH,Bool.true_and]
  refine calls_x (args:= [_]) tabOk Tryz.func14 Tryz.ntmps14 Tryz.results14 rfl (Nat.le_of_ble_eq_true rfl) ?_
  ((conv=>whnf);repeat' ((first|((with_reducible apply br_id);first|with_reducible refine br_t ?_|with_reducible refine br_f ?_|((with_reducible refine br_eq (fun hx=>?_) (fun hx=>?_))<;>(try (exfalso;first|omega|contradiction)))|((with_reducible refine br_s (fun hx=>?_) (fun hx=>?_))<;>(try (exfalso;first|omega|contradiction))))|((with_reducible apply ld_id);apply ld_hs hp;(focus repeat' constructor);exact rfl)|((with_reducible apply ldn_id);first|(apply lda_hs hp;(focus repeat' constructor);exact rfl)|(apply ldn_hs hp;(focus repeat' constructor);exact rfl;exact rfl))|((with_reducible apply al_id);refine al_cel hp ?_;clear hp;intro bb w hp)|((with_reducible apply cl_id);first|((refine cl_eq ((c1 hp.chg)) rfl rfl ?_;rintro e w ⟨rfl,hcc⟩;replace hp:=hp.call0 hcc;refine ⟨_,rfl,?_⟩))|((refine cl_eq ((rchain31_any _ x)) rfl rfl ?_;rintro e w ⟨rfl,hcc⟩;replace hp:=hp.call0 hcc;refine ⟨_,rfl,?_⟩))|((refine cl_eq ((c3 hp.chg)) rfl rfl ?_;rintro e w ⟨rfl,hcc⟩;replace hp:=hp.call0 hcc;refine ⟨_,rfl,?_⟩))|((refine cl_eq ((c4 hp.chg)) rfl rfl ?_;rintro e w ⟨rfl,hcc⟩;replace hp:=hp.call0 hcc;refine ⟨_,rfl,?_⟩))|((refine cl_eq ((c5 hp.chg)) rfl rfl ?_;rintro e w ⟨rfl,hcc⟩;replace hp:=hp.call0 hcc;refine ⟨_,rfl,?_⟩))|((refine cl_eq ((c6 hp.chg)) rfl rfl ?_;rintro e w ⟨rfl,hcc⟩;replace hp:=hp.call0 hcc;refine ⟨_,rfl,?_⟩))))<;>(conv=>whnf)))
  all_goals first
   |(exfalso;omega)
   |exact ps_val (v':= .bool q6) rfl ⟨by simp_all,hp.chg⟩
   |exact ps_val (v':= .bool false) rfl ⟨by simp_all,hp.chg⟩
 ·rw [decide_eq_false hH,Bool.false_and,Bool.and_false]
  refine calls_x (args:= [_]) tabOk Tryz.func14 Tryz.ntmps14 Tryz.results14 rfl (Nat.le_of_ble_eq_true rfl) ?_
  ((conv=>whnf);repeat' ((first|((with_reducible apply br_id);first|with_reducible refine br_t ?_|with_reducible refine br_f ?_|((with_reducible refine br_eq (fun hx=>?_) (fun hx=>?_))<;>(try (exfalso;first|omega|contradiction)))|((with_reducible refine br_s (fun hx=>?_) (fun hx=>?_))<;>(try (exfalso;first|omega|contradiction))))|((with_reducible apply ld_id);apply ld_hs hp;(focus repeat' constructor);exact rfl)|((with_reducible apply ldn_id);first|(apply lda_hs hp;(focus repeat' constructor);exact rfl)|(apply ldn_hs hp;(focus repeat' constructor);exact rfl;exact rfl))|((with_reducible apply al_id);refine al_cel hp ?_;clear hp;intro bb w hp)|((with_reducible apply cl_id);first|((refine cl_eq ((c1 hp.chg)) rfl rfl ?_;rintro e w ⟨rfl,hcc⟩;replace hp:=hp.call0 hcc;refine ⟨_,rfl,?_⟩))|((refine cl_eq ((rchain31_any _ x)) rfl rfl ?_;rintro e w ⟨rfl,hcc⟩;replace hp:=hp.call0 hcc;refine ⟨_,rfl,?_⟩))|((refine cl_eq ((c3 hp.chg)) rfl rfl ?_;rintro e w ⟨rfl,hcc⟩;replace hp:=hp.call0 hcc;refine ⟨_,rfl,?_⟩))))<;>(conv=>whnf)))
  all_goals first
   |(exfalso;omega)
   |exact ps_val (v':= .bool false) rfl ⟨rfl,hp.chg⟩
open Go.RowKit Go.Stop
set_option maxHeartbeats 500000
set_option maxHeartbeats 4000000
section
variable {w0 : World} {b room : Nat} {s : Sl UInt8} {bad : Int} {L : List UInt8} {f : Value}
theorem layW0_any {width:Nat} (hw:1≤width∧width≤8) (hI:WrI room L s bad) (h:(star (wrRs b room s bad)).ok w0) (hL:L.length≤1000000) (hr:room≤2000000000):
  Calls Tryz.prog 44 #[ptr b,i64 width,(Sl.nil (α:=Blk)).v,f] w0 fun e w'=>∃(s':Sl UInt8) (bad':Int),WrI room (L++numB 0 width) s' bad'∧e= .returned (.tuple #[])∧Mut (star (wrRs b room s bad)) (star (wrRs b room s' bad')) w0 w':=by
 have hp:=Hp.start1 h
 have u1:=Tryz.underlying26
 have hf:numFit 0 width=true:=by unfold numFit;simp
 refine calls_x (args:= [_,_,_,_]) tabOk Tryz.func44 Tryz.ntmps44 Tryz.results44 rfl (Nat.le_of_ble_eq_true rfl) ?_
 ((conv=>whnf);repeat' ((first|((with_reducible apply ar_id);(refine ar_u64 (by simp [Sl.nil]) ?_))|((with_reducible apply gen_id);apply gen_len;exact rfl;exact rfl;assumption))<;>(conv=>whnf)))
 refine cl_eq (wnumI_any 0 width hw hf (by omega) hI (hp.get (j:=0) rfl) hL hr) rfl rfl ?_
 rintro e w ⟨s2,bad2,hI2,rfl,hm⟩
 replace hp:=hp.via (j:=0) rfl hm
 clear hm
 dsimp only [List.set] at hp
 refine ⟨_,rfl,?_⟩
 ((conv=>whnf);repeat' (((with_reducible apply gen_id);apply gen_len;exact rfl;exact rfl;assumption)<;>(conv=>whnf)))
 refine lp_inv (α:=Unit) (fun _=> [(16,(Sl.nil (α:=Blk)).v),(17,i64 0),(18,i64 0)]) (fun _ w=>Hp (star (wrRs b room s bad)).dom w0 w [star (wrRs b room s2 bad2)]) (fun _=>0) () (by (repeat' (first|exact trivial|(refine ⟨rfl,?_⟩)))) hp ?_
 clear hp
 rintro _ e0 w hp
 ((conv=>whnf);repeat' (((with_reducible apply br_id);(with_reducible refine br_dec (fun hx=>?_) (fun hx=>?_))<;>(try (exfalso;first|omega|contradiction)))<;>(conv=>whnf)))
 exact ps_val (v':= .tuple #[]) rfl ⟨s2,bad2,hI2,rfl,hp.shut1 (j:=0) rfl⟩
theorem layS0_any {width:Nat} (hw:1≤width∧width≤8) (hI:WrI room L s bad) (h:(star (wrRs b room s bad)).ok w0) (hL:L.length≤1000000) (hr:room≤2000000000):
  Calls Tryz.prog 48 #[ptr b,i64 width,(Sl.nil (α:=Sess)).v,f] w0 fun e w'=>∃(s':Sl UInt8) (bad':Int),WrI room (L++numB 0 width) s' bad'∧e= .returned (.tuple #[])∧Mut (star (wrRs b room s bad)) (star (wrRs b room s' bad')) w0 w':=by
 have hp:=Hp.start1 h
 have u1:=Tryz.underlying27
 have hf:numFit 0 width=true:=by unfold numFit;simp
 refine calls_x (args:= [_,_,_,_]) tabOk Tryz.func48 Tryz.ntmps48 Tryz.results48 rfl (Nat.le_of_ble_eq_true rfl) ?_
 ((conv=>whnf);repeat' ((first|((with_reducible apply ar_id);(refine ar_u64 (by simp [Sl.nil]) ?_))|((with_reducible apply gen_id);apply gen_len;exact rfl;exact rfl;assumption))<;>(conv=>whnf)))
 refine cl_eq (wnumI_any 0 width hw hf (by omega) hI (hp.get (j:=0) rfl) hL hr) rfl rfl ?_
 rintro e w ⟨s2,bad2,hI2,rfl,hm⟩
 replace hp:=hp.via (j:=0) rfl hm
 clear hm
 dsimp only [List.set] at hp
 refine ⟨_,rfl,?_⟩
 ((conv=>whnf);repeat' (((with_reducible apply gen_id);apply gen_len;exact rfl;exact rfl;assumption)<;>(conv=>whnf)))
 refine lp_inv (α:=Unit) (fun _=> [(16,(Sl.nil (α:=Sess)).v),(17,i64 0),(18,i64 0)]) (fun _ w=>Hp (star (wrRs b room s bad)).dom w0 w [star (wrRs b room s2 bad2)]) (fun _=>0) () (by (repeat' (first|exact trivial|(refine ⟨rfl,?_⟩)))) hp ?_
 clear hp
 rintro _ e0 w hp
 ((conv=>whnf);repeat' (((with_reducible apply br_id);(with_reducible refine br_dec (fun hx=>?_) (fun hx=>?_))<;>(try (exfalso;first|omega|contradiction)))<;>(conv=>whnf)))
 exact ps_val (v':= .tuple #[]) rfl ⟨s2,bad2,hI2,rfl,hp.shut1 (j:=0) rfl⟩
theorem layB0_any {width:Nat} (hw:1≤width∧width≤8) (hI:WrI room L s bad) (h:(star (wrRs b room s bad)).ok w0) (hL:L.length≤1000000) (hr:room≤2000000000):
  Calls Tryz.prog 50 #[ptr b,i64 width,(Sl.nil (α:=Blob)).v,f] w0 fun e w'=>∃(s':Sl UInt8) (bad':Int),WrI room (L++numB 0 width) s' bad'∧e= .returned (.tuple #[])∧Mut (star (wrRs b room s bad)) (star (wrRs b room s' bad')) w0 w':=by
 have hp:=Hp.start1 h
 have u1:=Tryz.underlying28
 have hf:numFit 0 width=true:=by unfold numFit;simp
 refine calls_x (args:= [_,_,_,_]) tabOk Tryz.func50 Tryz.ntmps50 Tryz.results50 rfl (Nat.le_of_ble_eq_true rfl) ?_
 ((conv=>whnf);repeat' ((first|((with_reducible apply ar_id);(refine ar_u64 (by simp [Sl.nil]) ?_))|((with_reducible apply gen_id);apply gen_len;exact rfl;exact rfl;assumption))<;>(conv=>whnf)))
 refine cl_eq (wnumI_any 0 width hw hf (by omega) hI (hp.get (j:=0) rfl) hL hr) rfl rfl ?_
 rintro e w ⟨s2,bad2,hI2,rfl,hm⟩
 replace hp:=hp.via (j:=0) rfl hm
 clear hm
 dsimp only [List.set] at hp
 refine ⟨_,rfl,?_⟩
 ((conv=>whnf);repeat' (((with_reducible apply gen_id);apply gen_len;exact rfl;exact rfl;assumption)<;>(conv=>whnf)))
 refine lp_inv (α:=Unit) (fun _=> [(16,(Sl.nil (α:=Blob)).v),(17,i64 0),(18,i64 0)]) (fun _ w=>Hp (star (wrRs b room s bad)).dom w0 w [star (wrRs b room s2 bad2)]) (fun _=>0) () (by (repeat' (first|exact trivial|(refine ⟨rfl,?_⟩)))) hp ?_
 clear hp
 rintro _ e0 w hp
 ((conv=>whnf);repeat' (((with_reducible apply br_id);(with_reducible refine br_dec (fun hx=>?_) (fun hx=>?_))<;>(try (exfalso;first|omega|contradiction)))<;>(conv=>whnf)))
 exact ps_val (v':= .tuple #[]) rfl ⟨s2,bad2,hI2,rfl,hp.shut1 (j:=0) rfl⟩
theorem layJ0_any {width:Nat} (hw:1≤width∧width≤8) (hI:WrI room L s bad) (h:(star (wrRs b room s bad)).ok w0) (hL:L.length≤1000000) (hr:room≤2000000000):
  Calls Tryz.prog 53 #[ptr b,i64 width,(Sl.nil (α:=Job)).v,f] w0 fun e w'=>∃(s':Sl UInt8) (bad':Int),WrI room (L++numB 0 width) s' bad'∧e= .returned (.tuple #[])∧Mut (star (wrRs b room s bad)) (star (wrRs b room s' bad')) w0 w':=by
 have hp:=Hp.start1 h
 have u1:=Tryz.underlying29
 have hf:numFit 0 width=true:=by unfold numFit;simp
 refine calls_x (args:= [_,_,_,_]) tabOk Tryz.func53 Tryz.ntmps53 Tryz.results53 rfl (Nat.le_of_ble_eq_true rfl) ?_
 ((conv=>whnf);repeat' ((first|((with_reducible apply ar_id);(refine ar_u64 (by simp [Sl.nil]) ?_))|((with_reducible apply gen_id);apply gen_len;exact rfl;exact rfl;assumption))<;>(conv=>whnf)))
 refine cl_eq (wnumI_any 0 width hw hf (by omega) hI (hp.get (j:=0) rfl) hL hr) rfl rfl ?_
 rintro e w ⟨s2,bad2,hI2,rfl,hm⟩
 replace hp:=hp.via (j:=0) rfl hm
 clear hm
 dsimp only [List.set] at hp
 refine ⟨_,rfl,?_⟩
 ((conv=>whnf);repeat' (((with_reducible apply gen_id);apply gen_len;exact rfl;exact rfl;assumption)<;>(conv=>whnf)))
 refine lp_inv (α:=Unit) (fun _=> [(16,(Sl.nil (α:=Job)).v),(17,i64 0),(18,i64 0)]) (fun _ w=>Hp (star (wrRs b room s bad)).dom w0 w [star (wrRs b room s2 bad2)]) (fun _=>0) () (by (repeat' (first|exact trivial|(refine ⟨rfl,?_⟩)))) hp ?_
 clear hp
 rintro _ e0 w hp
 ((conv=>whnf);repeat' (((with_reducible apply br_id);(with_reducible refine br_dec (fun hx=>?_) (fun hx=>?_))<;>(try (exfalso;first|omega|contradiction)))<;>(conv=>whnf)))
 exact ps_val (v':= .tuple #[]) rfl ⟨s2,bad2,hI2,rfl,hp.shut1 (j:=0) rfl⟩
end
abbrev staF:Sta:=⟨⟨1,1,1,1,1,1⟩,0,0,0,Sl.nil,Sl.nil,Sl.nil,Sl.nil⟩
abbrev fC:List Value:=i64 1::i64 1::i64 1::i64 1::i64 1::i64 1::u32 0::i64 0::u32 0::(Sl.nil (α:=Blk)).v::(Sl.nil (α:=Sess)).v::(Sl.nil (α:=Blob)).v::(Sl.nil (α:=Job)).v:: []
theorem iwrite_first {w0:World} {room:Nat} (hr:39≤room∧room≤2000000000):Calls Tryz.prog 18 #[.agg fC.toArray,i64 room] w0 fun e w'=>∃r:Sl UInt8,r.l.length=39∧e= .returned (.tuple #[r.v,i64 0])∧Made (rowR 5 1 u8L r) w0 w':=by
 have hp:=Hp.start (S:=N0) w0
 obtain ⟨hr1,hr2⟩:=hr
 refine calls_x (args:= [_,_]) tabOk Tryz.func18 Tryz.ntmps18 Tryz.results18 rfl (Nat.le_of_ble_eq_true rfl) ?_
 ((conv=>whnf);repeat' (((with_reducible apply al_id);refine al_cel hp ?_;clear hp;intro bb w hp)<;>(conv=>whnf)))
 obtain ⟨b2,hb2⟩:∃b,b=bb:=⟨_,rfl⟩
 subst hb2
 refine cl_eq (wnew_any room hr2) rfl rfl ?_
 rintro e w ⟨bw,rfl,hm⟩
 replace hp:=hp.add hm
 clear hm
 refine ⟨_,rfl,?_⟩
 ((conv=>whnf);repeat' ((first|((with_reducible apply cn_id);refine cn rfl ?_)|((with_reducible apply ld_id);apply ld_hs hp;(focus repeat' constructor);exact rfl)|((with_reducible apply ldn_id);apply ldn_hs hp;(focus repeat' constructor);exact rfl;exact rfl)|((with_reducible apply al_id);refine al_cel hp ?_;clear hp;intro bb w hp)|((with_reducible apply st_id);apply sta_hs hp;(focus repeat' constructor);exact rfl;exact rfl;clear hp;intro w hp;(try dsimp only [List.set] at hp))|((with_reducible apply gen_id);apply gen_build;exact rfl;exact rfl))<;>(conv=>whnf)))
 obtain ⟨b7,hb7⟩:∃b,b=bb:=⟨_,rfl⟩
 subst hb7
 obtain ⟨b6,hb6⟩:∃b,b=bb:=⟨_,rfl⟩
 subst hb6
 have hp0:Hp N0 w0 w [cel b6 92 #[ptr bw],star (wrRs bw room Sl.nil 0),cel b2 31 fC.toArray]:=hp.tail
 clear hp
 have hI0:WrI room [] (Sl.nil (α:=UInt8)) 0:=⟨Nat.le_refl _, .inl ⟨rfl,rfl,Nat.zero_le _⟩⟩
 refine lp_inv (α:=Nat×List UInt8×Sl UInt8×Int) (fun a=> [(2,ptr b2),(6,ptr b6),(26, .agg #[i64 1,i64 1,i64 1,i64 1,i64 1,i64 1]),(27,i64 a.1)]) (fun a w=>a.1≤6∧a.2.1.length=4*a.1∧WrI room a.2.1 a.2.2.1 a.2.2.2∧Hp N0 w0 w [cel b6 92 #[ptr bw],star (wrRs bw room a.2.2.1 a.2.2.2),cel b2 31 fC.toArray]) (fun a=>6 - a.1) (0, [],Sl.nil,0) (by (repeat' (first|exact trivial|(refine ⟨rfl,?_⟩)))) ⟨by omega,rfl,hI0,hp0⟩ ?_
 clear hp0 hI0
 rintro ⟨i,L,s,bad⟩ e0 w ⟨hi,hL,hI,hp⟩
 dsimp only at hi hL hI hp ⊢
 rcases Nat.lt_or_ge i 6 with hlt|hge
 ·have hy6:([1,1,1,1,1,1]:List Int)[i]? =some 1:=by
   rcases i with _|_|_|_|_|_|i
   ·rfl
   ·rfl
   ·rfl
   ·rfl
   ·rfl
   ·rfl
   ·omega
  have u6:=Tryz.underlying94
  ((conv=>whnf);repeat' ((first|((with_reducible apply br_id);(with_reducible refine br_dec (fun hx=>?_) (fun hx=>?_))<;>(try (exfalso;first|omega|contradiction)))|((with_reducible apply ar_id);refine ar_u32 (by omega) ?_)|((with_reducible apply ld_id);apply ld_hs hp;(focus repeat' constructor);exact rfl)|((with_reducible apply gen_id);first|((refine gen_arx (f:=fun z:Int=>i64 z) (l:= [1,1,1,1,1,1]) rfl u6 rfl rfl rfl (by omega) i (by omega) hy6 ?_))|((refine gen_bs rfl hp el_u4 u4L [(1:UInt32)] [u4 1] rfl rfl rfl (fun _ hh=>by simp at hh;subst hh;rfl) (by omega) ?_);clear hp;intro br w hp)))<;>(conv=>whnf)))
  refine cl_eq (nums_any (B:=w.heap.size) (x:=⟨some ⟨br,0,none⟩,1, [1]⟩) hI (hp.get (j:=2) rfl) (out_row hp (by simp)) (by simp) (by omega) hr2) rfl rfl ?_
  rintro e w ⟨s2,bad2,hI2,rfl,hm⟩
  replace hp:=hp.via (j:=2) rfl hm
  clear hm
  dsimp only [List.set] at hp
  refine ⟨_,rfl,?_⟩
  ((conv=>whnf);repeat' (((with_reducible apply ar_id);refine ar_i64 (by omega) ?_)<;>(conv=>whnf)))
  exact lp_next (i+1,L++numsB [1],s2,bad2) (by show 6 - (i+1) < 6 - i;omega) (by (repeat' (first|exact trivial|(refine ⟨rfl,?_⟩)))) ⟨by show i+1≤_;omega,by show (L++numsB [1]).length=4*(i+1);rw [List.length_append,hL];exact (Nat.mul_succ 4 i).symm,hI2,hp.tail⟩
 obtain rfl:i=6:=by omega
 clear hi hge
 ((conv=>whnf);repeat' ((first|((with_reducible apply br_id);(with_reducible refine br_dec (fun hx=>?_) (fun hx=>?_))<;>(try (exfalso;first|omega|contradiction)))|((with_reducible apply ld_id);apply ld_hs hp;(focus repeat' constructor);exact rfl)|((with_reducible apply gen_id);(refine gen_bs rfl hp el_u4 u4L [(0:UInt32)] [u4 0] rfl rfl rfl (fun _ hh=>by simp at hh;subst hh;rfl) (by omega) ?_);clear hp;intro br w hp))<;>(conv=>whnf)))
 have hz1:(numsB [0]).length=4:=rfl
 have hz2:∀k,k≤8→(numB 0 k).length=k:=fun k hk=>numB_len 0 k hk
 have hf:∀k,numFit 0 k=true:=fun k=>by unfold numFit;simp
 refine cl_eq (nums_any (B:=w.heap.size) (x:=⟨some ⟨br,0,none⟩,1, [0]⟩) hI (hp.get (j:=2) rfl) (out_row hp (by simp)) (by simp) (by omega) hr2) rfl rfl ?_
 rintro e w ⟨s1,bad1,hI1,rfl,hm⟩
 replace hp:=hp.via (j:=2) rfl hm
 clear hm
 dsimp only [List.set] at hp
 replace hp:=hp.tail
 refine ⟨_,rfl,?_⟩
 ((conv=>whnf);repeat' ((first|((with_reducible apply ar_id);refine ar_u64 (by omega) ?_)|((with_reducible apply ld_id);apply ld_hs hp;(focus repeat' constructor);exact rfl))<;>(conv=>whnf)))
 refine cl_eq (wnumI_any 0 1 (by omega) (hf 1) (by omega) hI1 (hp.get (j:=1) rfl) (by simp only [List.length_append,hz1];omega) hr2) rfl rfl ?_
 rintro e w ⟨s2,bad2,hI2,rfl,hm⟩
 replace hp:=hp.via (j:=1) rfl hm
 clear hm
 dsimp only [List.set] at hp
 refine ⟨_,rfl,?_⟩
 ((conv=>whnf);repeat' ((first|((with_reducible apply ld_id);apply ld_hs hp;(focus repeat' constructor);exact rfl)|((with_reducible apply gen_id);(refine gen_bs rfl hp el_u4 u4L [(0:UInt32)] [u4 0] rfl rfl rfl (fun _ hh=>by simp at hh;subst hh;rfl) (by omega) ?_);clear hp;intro br w hp))<;>(conv=>whnf)))
 refine cl_eq (nums_any (B:=w.heap.size) (x:=⟨some ⟨br,0,none⟩,1, [0]⟩) hI2 (hp.get (j:=2) rfl) (out_row hp (by simp)) (by simp) (by simp only [List.length_append,hz1,hz2 1 (by omega)];omega) hr2) rfl rfl ?_
 rintro e w ⟨s3,bad3,hI3,rfl,hm⟩
 replace hp:=hp.via (j:=2) rfl hm
 clear hm
 dsimp only [List.set] at hp
 replace hp:=hp.tail
 refine ⟨_,rfl,?_⟩
 ((conv=>whnf);repeat' ((first|((with_reducible apply ld_id);apply ld_hs hp;(focus repeat' constructor);exact rfl)|((with_reducible apply gen_id);(refine gen_mkf rfl rfl ?_)))<;>(conv=>whnf)))
 refine cl_eq (layW0_any (width:=1) (by omega) hI3 (hp.get (j:=1) rfl) (by simp only [List.length_append,hz1,hz2 1 (by omega),hz2 2 (by omega)];omega) hr2) rfl rfl ?_
 rintro e w ⟨s4,bad4,hI4,rfl,hm⟩
 replace hp:=hp.via (j:=1) rfl hm
 clear hm
 dsimp only [List.set] at hp
 refine ⟨_,rfl,?_⟩
 ((conv=>whnf);repeat' ((first|((with_reducible apply ld_id);apply ld_hs hp;(focus repeat' constructor);exact rfl)|((with_reducible apply gen_id);(refine gen_mkf rfl rfl ?_)))<;>(conv=>whnf)))
 refine cl_eq (layS0_any (width:=1) (by omega) hI4 (hp.get (j:=1) rfl) (by simp only [List.length_append,hz1,hz2 1 (by omega),hz2 2 (by omega)];omega) hr2) rfl rfl ?_
 rintro e w ⟨s5,bad5,hI5,rfl,hm⟩
 replace hp:=hp.via (j:=1) rfl hm
 clear hm
 dsimp only [List.set] at hp
 refine ⟨_,rfl,?_⟩
 ((conv=>whnf);repeat' ((first|((with_reducible apply ld_id);apply ld_hs hp;(focus repeat' constructor);exact rfl)|((with_reducible apply gen_id);(refine gen_mkf rfl rfl ?_)))<;>(conv=>whnf)))
 refine cl_eq (layB0_any (width:=2) (by omega) hI5 (hp.get (j:=1) rfl) (by simp only [List.length_append,hz1,hz2 1 (by omega),hz2 2 (by omega)];omega) hr2) rfl rfl ?_
 rintro e w ⟨s6,bad6,hI6,rfl,hm⟩
 replace hp:=hp.via (j:=1) rfl hm
 clear hm
 dsimp only [List.set] at hp
 refine ⟨_,rfl,?_⟩
 ((conv=>whnf);repeat' ((first|((with_reducible apply ld_id);apply ld_hs hp;(focus repeat' constructor);exact rfl)|((with_reducible apply gen_id);(refine gen_mkf rfl rfl ?_)))<;>(conv=>whnf)))
 refine cl_eq (layJ0_any (width:=2) (by omega) hI6 (hp.get (j:=1) rfl) (by simp only [List.length_append,hz1,hz2 1 (by omega),hz2 2 (by omega)];omega) hr2) rfl rfl ?_
 rintro e w ⟨s7,bad7,hI7,rfl,hm⟩
 replace hp:=hp.via (j:=1) rfl hm
 clear hm
 dsimp only [List.set] at hp
 refine ⟨_,rfl,?_⟩
 ((conv=>whnf);repeat' (((with_reducible apply ld_id);apply ld_hs hp;(focus repeat' constructor);exact rfl)<;>(conv=>whnf)))
 have hlen:(((((((L++numsB [0])++numB 0 1)++numsB [0])++numB 0 1)++numB 0 1)++numB 0 2)++numB 0 2).length=39:=by
  simp only [List.length_append,hz1,hz2 1 (by omega),hz2 2 (by omega),hL]
 obtain ⟨hd0,hs7⟩:bad7=0∧s7.l.length=39:=by
  rcases hI7.is with ⟨h1,h2,h3⟩|⟨h1,h2⟩
  ·exact ⟨h1,by rw [h2];exact hlen⟩
  ·rw [show _=39 from hlen] at h2
   omega
 subst hd0
 refine cl_eq (wdone_any (hp.get (j:=1) rfl) (by omega)) rfl rfl ?_
 rintro e w ⟨r,hr,rfl,hm⟩
 replace hp:=hp.add hm
 clear hm
 refine ⟨_,rfl,?_⟩
 ((conv=>whnf))
 exact ps_val (v':= .tuple #[r.v,i64 0]) rfl ⟨r,by rw [hr,if_pos rfl];exact hs7,rfl,hp.made1 (j:=0) rfl⟩
theorem right_first:rightS staF=true:=by decide
theorem sta_first {w:World}:StaAt w.heap.size w staF:=⟨.none_,fun _ h=>(by cases h), .none_,⟨.none_,fun _ h=>(by cases h)⟩, .none_,fun _ h=>(by cases h)⟩
theorem few_first:FewI staF:=⟨by decide,by decide,by decide,by decide,fun _ h=>(by cases h),fun _ h=>(by cases h),fun _ h=>(by cases h)⟩
theorem bright_first (w0:World):Calls Tryz.prog 17 #[.agg fC.toArray] w0 fun e w'=>e= .returned (.bool true)∧Chg N0 w0 w':=by
 have h:=bright_any (w0:=w0) sta_first (Nat.le_refl _) few_first (fun _ h=>(by cases h))
 rw [right_first] at h
 exact h
theorem enc_first (w0:World):Calls Tryz.prog 7 #[.agg fC.toArray] w0 fun e w'=>∃r:Sl UInt8,r.l.length=39∧e= .returned (.tuple #[r.v,i64 0])∧Made (rowR 5 1 u8L r) w0 w':=by
 have hp:=Hp.start (S:=N0) w0
 refine calls_x (args:= [_]) tabOk Tryz.func7 Tryz.ntmps7 Tryz.results7 rfl (Nat.le_of_ble_eq_true rfl) ?_
 ((conv=>whnf);repeat' ((first|((with_reducible apply br_id);first|with_reducible refine br_t ?_|with_reducible refine br_not ?_)|((with_reducible apply ldn_id);apply lda_hs hp;(focus repeat' constructor);exact rfl)|((with_reducible apply al_id);refine al_cel hp ?_;clear hp;intro bb w hp)|((with_reducible apply cl_id);(refine cl_eq ((bright_first _)) rfl rfl ?_;rintro e w ⟨rfl,hcc⟩;replace hp:=hp.call0 hcc;refine ⟨_,rfl,?_⟩)))<;>(conv=>whnf)))
 refine cl_eq (iwrite_first (room:=60000) (by omega)) rfl rfl ?_
 rintro e w ⟨r,hr,rfl,hm⟩
 replace hp:=hp.add hm
 clear hm
 refine ⟨_,rfl,?_⟩
 ((conv=>whnf);repeat' (((with_reducible apply br_id);(with_reducible refine br_ne (fun hx=>?_) (fun hx=>?_))<;>(try (exfalso;first|omega|contradiction)))<;>(conv=>whnf)))
 exact ps_val (v':= .tuple #[r.v,i64 0]) rfl ⟨r,hr,rfl,hp.made1 (j:=0) rfl⟩
theorem bytes_first (w0:World):Calls Tryz.prog 9 #[.agg fC.toArray] w0 fun e w'=>e= .returned (i64 39)∧Chg N0 w0 w':=by
 have hp:=Hp.start (S:=N0) w0
 have u1:=Tryz.underlying34
 refine calls_x (args:= [_]) tabOk Tryz.func9 Tryz.ntmps9 Tryz.results9 rfl (Nat.le_of_ble_eq_true rfl) ?_
 ((conv=>whnf);repeat' ((first|((with_reducible apply br_id);first|with_reducible refine br_t ?_|with_reducible refine br_not ?_)|((with_reducible apply ldn_id);apply lda_hs hp;(focus repeat' constructor);exact rfl)|((with_reducible apply al_id);refine al_cel hp ?_;clear hp;intro bb w hp)|((with_reducible apply cl_id);(refine cl_eq ((bright_first _)) rfl rfl ?_;rintro e w ⟨rfl,hcc⟩;replace hp:=hp.call0 hcc;refine ⟨_,rfl,?_⟩)))<;>(conv=>whnf)))
 refine cl_eq (iwrite_first (room:=1073741824) (by omega)) rfl rfl ?_
 rintro e w ⟨r,hr,rfl,hm⟩
 replace hp:=hp.add hm
 clear hm
 refine ⟨_,rfl,?_⟩
 ((conv=>whnf);repeat' (((with_reducible apply gen_id);apply gen_len;exact rfl;exact rfl;assumption)<;>(conv=>whnf)))
 exact ps_val (v':=i64 r.l.length) rfl ⟨by rw [hr];rfl,hp.chg⟩
theorem first32_any (w0:World):Calls Tryz.prog 16 #[] w0 fun e w'=>e= .returned (.agg fC.toArray)∧Chg N0 w0 w':=by
 have hp:=Hp.start (S:=N0) w0
 refine calls_x (args:= []) tabOk Tryz.func16 Tryz.ntmps16 Tryz.results16 rfl (Nat.le_of_ble_eq_true rfl) ?_
 ((conv=>whnf);repeat' ((first|((with_reducible apply cn_id);refine cn rfl ?_)|((with_reducible apply ldn_id);apply lda_hs hp;(focus repeat' constructor);exact rfl)|((with_reducible apply al_id);refine al_cel hp ?_;clear hp;intro bb w hp)|((with_reducible apply st_id);apply sta_hs hp;(focus repeat' constructor);exact rfl;exact rfl;clear hp;intro w hp;(try dsimp only [List.set] at hp))|((with_reducible apply gen_id);first|(refine gen_build (t:=31) (out:=fC) rfl (by kernel_rfl) ?_)|(apply gen_build;exact rfl;exact rfl)))<;>(conv=>whnf)))
 exact ps_val (v':= .agg fC.toArray) rfl ⟨rfl,hp.chg⟩
theorem alive32_any (w0:World):Calls Tryz.prog 6 #[] w0 fun e w'=>e= .returned (.bool true)∧Chg N0 w0 w':=by
 have hp:=Hp.start (S:=N0) w0
 have u1:=Tryz.underlying34
 refine calls_x (args:= []) tabOk Tryz.func6 Tryz.ntmps6 Tryz.results6 rfl (Nat.le_of_ble_eq_true rfl) ?_
 ((conv=>whnf);repeat' (((with_reducible apply cl_id);(refine cl_eq ((first32_any _)) rfl rfl ?_;rintro e w ⟨rfl,hcc⟩;replace hp:=hp.call0 hcc;refine ⟨_,rfl,?_⟩))<;>(conv=>whnf)))
 refine cl_eq (enc_first _) rfl rfl ?_
 rintro e w ⟨r,hr,rfl,hm⟩
 replace hp:=hp.add hm
 clear hm
 refine ⟨_,rfl,?_⟩
 ((conv=>whnf);repeat' ((first|((with_reducible apply br_id);first|with_reducible refine br_t ?_|((with_reducible refine br_eq (fun hx=>?_) (fun hx=>?_))<;>(try (exfalso;first|omega|contradiction))))|((with_reducible apply gen_id);apply gen_len;exact rfl;exact rfl;assumption)|((with_reducible apply cl_id);first|((refine cl_eq ((first32_any _)) rfl rfl ?_;rintro e w ⟨rfl,hcc⟩;replace hp:=hp.call0 hcc;refine ⟨_,rfl,?_⟩))|((refine cl_eq ((bytes_first _)) rfl rfl ?_;rintro e w ⟨rfl,hcc⟩;replace hp:=hp.call0 hcc;refine ⟨_,rfl,?_⟩))))<;>(conv=>whnf)))
 all_goals first
  |exact ps_val (v':= .bool true) rfl ⟨rfl,hp.chg⟩
  |omega
set_option maxHeartbeats 2000000
theorem p_ne {p q:List Blob} {i:Nat} {x y:Blob} (hx:p[i]? =some x) (hy:q[i]? =some y) (h:x.p≠y.p):decide (p.map (·.p)=q.map (·.p))=false:=by
 rw [decide_eq_false_iff_not]
 intro hh
 have:=congrArg (·[i]?) hh
 simp [hx,hy] at this
 exact h this
theorem rsame25_any {B:Nat} {w0:World} {p q:Sl Blob} (h:BlobsAt B w0 p) (k:BlobsAt B w0 q):Calls Tryz.prog 25 #[p.v,q.v] w0 fun e w'=>e= .returned (.bool (decide (p.l.map (·.p)=q.l.map (·.p))))∧Chg N0 w0 w':=by
 have hp:=Hp.start (S:=N0) w0
 have hB:∀b,N0 b→B≤b:=fun _ hh=>hh.elim
 have us:=Tryz.underlying28
 have u2:=Tryz.underlying34
 have hmax:p.l.length≤9223372036854775807:=by have:=h.row.le;have:=h.row.max;simp only [maxLen] at this;omega
 have hmaq:q.l.length≤9223372036854775807:=by have:=k.row.le;have:=k.row.max;simp only [maxLen] at this;omega
 refine calls_x (args:= [_,_]) tabOk Tryz.func25 Tryz.ntmps25 Tryz.results25 rfl (Nat.le_of_ble_eq_true rfl) ?_
 ((conv=>whnf);repeat' ((first|((with_reducible apply br_id);(with_reducible refine br_ne (fun hx=>?_) (fun hx=>?_))<;>(try (exfalso;first|omega|contradiction)))|((with_reducible apply gen_id);apply gen_len;exact rfl;exact rfl;assumption))<;>(conv=>whnf)))
 ·exact ps_val (v':= .bool false) rfl ⟨by rw [decide_eq_false fun e=>by have e:=congrArg List.length e;rw [List.length_map,List.length_map] at e;omega],hp.chg⟩
 have hpq:p.l.length=q.l.length:=by omega
 refine lp_inv (α:=Nat) (fun i=> [(0,p.v),(1,q.v),(5,i64 i)]) (fun i w=>i≤p.l.length∧(p.l.take i).map (·.p)=(q.l.take i).map (·.p)∧Hp N0 w0 w []) (fun i=>p.l.length - i) 0 (by (repeat' (first|exact trivial|(refine ⟨rfl,?_⟩)))) ⟨by omega,by simp,hp⟩ ?_
 clear hp
 rintro i e0 w ⟨hi,hall,hp⟩
 dsimp only at hi hall hp ⊢
 rcases Nat.lt_or_ge i p.l.length with hlt|hge
 ·obtain ⟨b,o,x,hA,hb,hrow,hxx⟩:=h.row.has hlt
  obtain ⟨b',o',y,hA',hb',hrow',hyy⟩:=k.row.has (show i < q.l.length by omega)
  have hiq:(i:Int) < q.l.length:=by omega
  have hmx:=h.data x (List.mem_of_getElem? hxx)
  have hmy:=k.data y (List.mem_of_getElem? hyy)
  have hx2:((Blob.c x).drop 2).take 16=Hint.c x.hint:=rfl
  have hy2:((Blob.c y).drop 2).take 16=Hint.c y.hint:=rfl
  have hx18:(Blob.c x)[18]? =some (Sl.v x.data):=rfl
  have hy18:(Blob.c y)[18]? =some (Sl.v y.data):=rfl
  by_cases h1:x.key.ses=y.key.ses∧x.key.seq=y.key.seq
  ·obtain ⟨h1,h2⟩:=h1
   have e1:(x.key.ses.toNat:Int)=y.key.ses.toNat:=by rw [h1]
   have e2:(x.key.seq.toNat:Int)=y.key.seq.toNat:=by rw [h2]
   by_cases h3:x.hint=y.hint
   ·have hq:EqIs Tryz.prog 44 x.hint.v y.hint.v true:=by have:=eq_hint x.hint y.hint;rwa [decide_eq_true h3] at this
    have hbn:(if BinOp.neq=BinOp.eql then true else !true)=false:=rfl
    by_cases h4:x.data.l=y.data.l
    ·have hbs:(if BinOp.neq=BinOp.eql then decide (x.data.l=y.data.l) else !decide (x.data.l=y.data.l))=false:=by rw [decide_eq_true h4];rfl
     ((conv=>whnf);repeat' ((first|((with_reducible apply br_id);first|(with_reducible refine br_0 hbn ?_)|(with_reducible refine br_0 hbs ?_)|with_reducible refine br_f ?_|((with_reducible refine br_dec (fun hx=>?_) (fun hx=>?_))<;>(try (exfalso;first|omega|contradiction)))|((with_reducible refine br_ne (fun hx=>?_) (fun hx=>?_))<;>(try (exfalso;first|omega|contradiction))))|((with_reducible apply ar_id);refine ar_i64 (by omega) ?_)|((with_reducible apply ld_id);(refine ld_row hp hB ‹_› ‹_› _ _ rfl ‹_› (by rfl) ?_))|((with_reducible apply ldn_id);(refine ldn_row hp hB ‹_› ‹_› _ _ rfl ‹_› (by rfl) (by rfl) ?_))|((with_reducible apply gen_id);apply gen_len;exact rfl;exact rfl;assumption)|((with_reducible apply dr_id);refine dr_auto tabOk (by kernel_rfl) (by decide+kernel) ?_;(try replace hp:=hp.drew))|((with_reducible apply rd_id);first|(refine rd_ixs rfl rfl ‹_› rfl rfl (by omega) ?_)|(refine rd_b2s rfl (hmx.keep hp.chg hB) u2 Tryz.underlying5 Tryz.underlying9 rfl ?_)|(refine rd_b2s rfl (hmy.keep hp.chg hB) u2 Tryz.underlying5 Tryz.underlying9 rfl ?_)|(refine rd_streq rfl (a:=x.data.l) (b:=y.data.l) rfl rfl (.inr rfl) ?_)|(refine rd_eqa rfl rfl rfl hq (by kernel_rfl) (.inr rfl) ?_)))<;>(conv=>whnf)))
     have hxy:x.p=y.p:=by
      obtain ⟨⟨a1,a2⟩,a3,a4⟩:=x
      obtain ⟨⟨c1,c2⟩,c3,c4⟩:=y
      show BlP.mk _ _ _=BlP.mk _ _ _
      rw [show a1=c1 from h1,show a2=c2 from h2,show a3=c3 from h3,show a4.l=c4.l from h4]
     all_goals first
      |exact absurd e1 hx
      |exact absurd e2 hx
      |exact lp_next (i+1) (by show p.l.length - (i+1) < p.l.length - i;omega) (by (repeat' (first|exact trivial|(refine ⟨rfl,?_⟩)))) ⟨by show i+1≤_;omega,by show (p.l.take (i+1)).map _=(q.l.take (i+1)).map _;rw [List.take_add_one,List.take_add_one,hxx,hyy,List.map_append,List.map_append,hall];simp [hxy],hp⟩
    ·have hbs:(if BinOp.neq=BinOp.eql then decide (x.data.l=y.data.l) else !decide (x.data.l=y.data.l))=true:=by rw [decide_eq_false h4];rfl
     ((conv=>whnf);repeat' ((first|((with_reducible apply br_id);first|(with_reducible refine br_0 hbn ?_)|(with_reducible refine br_1 hbs ?_)|with_reducible refine br_f ?_|((with_reducible refine br_dec (fun hx=>?_) (fun hx=>?_))<;>(try (exfalso;first|omega|contradiction)))|((with_reducible refine br_ne (fun hx=>?_) (fun hx=>?_))<;>(try (exfalso;first|omega|contradiction))))|((with_reducible apply ld_id);(refine ld_row hp hB ‹_› ‹_› _ _ rfl ‹_› (by rfl) ?_))|((with_reducible apply ldn_id);(refine ldn_row hp hB ‹_› ‹_› _ _ rfl ‹_› (by rfl) (by rfl) ?_))|((with_reducible apply gen_id);apply gen_len;exact rfl;exact rfl;assumption)|((with_reducible apply dr_id);refine dr_auto tabOk (by kernel_rfl) (by decide+kernel) ?_;(try replace hp:=hp.drew))|((with_reducible apply rd_id);first|(refine rd_ixs rfl rfl ‹_› rfl rfl (by omega) ?_)|(refine rd_b2s rfl (hmx.keep hp.chg hB) u2 Tryz.underlying5 Tryz.underlying9 rfl ?_)|(refine rd_b2s rfl (hmy.keep hp.chg hB) u2 Tryz.underlying5 Tryz.underlying9 rfl ?_)|(refine rd_streq rfl (a:=x.data.l) (b:=y.data.l) rfl rfl (.inr rfl) ?_)|(refine rd_eqa rfl rfl rfl hq (by kernel_rfl) (.inr rfl) ?_)))<;>(conv=>whnf)))
     all_goals first
      |exact absurd e1 hx
      |exact absurd e2 hx
      |exact ps_val (v':= .bool false) rfl ⟨by rw [p_ne hxx hyy fun e=>h4 (congrArg BlP.bytes e)],hp.chg⟩
   ·have hq:EqIs Tryz.prog 44 x.hint.v y.hint.v false:=by have:=eq_hint x.hint y.hint;rwa [decide_eq_false h3] at this
    have hbn:(if BinOp.neq=BinOp.eql then false else !false)=true:=rfl
    ((conv=>whnf);repeat' ((first|((with_reducible apply br_id);first|(with_reducible refine br_1 hbn ?_)|with_reducible refine br_t ?_|with_reducible refine br_f ?_|((with_reducible refine br_dec (fun hx=>?_) (fun hx=>?_))<;>(try (exfalso;first|omega|contradiction)))|((with_reducible refine br_ne (fun hx=>?_) (fun hx=>?_))<;>(try (exfalso;first|omega|contradiction))))|((with_reducible apply ld_id);(refine ld_row hp hB ‹_› ‹_› _ _ rfl ‹_› (by rfl) ?_))|((with_reducible apply ldn_id);(refine ldn_row hp hB ‹_› ‹_› _ _ rfl ‹_› (by rfl) (by rfl) ?_))|((with_reducible apply gen_id);apply gen_len;exact rfl;exact rfl;assumption)|((with_reducible apply dr_id);refine dr_auto tabOk (by kernel_rfl) (by decide+kernel) ?_;(try replace hp:=hp.drew))|((with_reducible apply rd_id);first|(refine rd_ixs rfl rfl ‹_› rfl rfl (by omega) ?_)|(refine rd_eqa rfl rfl rfl hq (by kernel_rfl) (.inr rfl) ?_)))<;>(conv=>whnf)))
    all_goals first
     |exact absurd e1 hx
     |exact absurd e2 hx
     |exact ps_val (v':= .bool false) rfl ⟨by rw [p_ne hxx hyy fun e=>h3 (congrArg BlP.hint e)],hp.chg⟩
  ·have hne:x.p≠y.p:=fun e=>h1 (by have h2:x.key=y.key:=congrArg BlP.key e;rw [h2];exact ⟨rfl,rfl⟩)
   have hne2:¬((x.key.ses.toNat:Int)=y.key.ses.toNat∧(x.key.seq.toNat:Int)=y.key.seq.toNat):=fun ⟨a,b⟩=>h1 ⟨UInt32.toNat_inj.1 (Int.ofNat.inj a),UInt32.toNat_inj.1 (Int.ofNat.inj b)⟩
   ((conv=>whnf);repeat' ((first|((with_reducible apply br_id);first|with_reducible refine br_t ?_|with_reducible refine br_f ?_|((with_reducible refine br_dec (fun hx=>?_) (fun hx=>?_))<;>(try (exfalso;first|omega|contradiction)))|((with_reducible refine br_ne (fun hx=>?_) (fun hx=>?_))<;>(try (exfalso;first|omega|contradiction))))|((with_reducible apply ld_id);(refine ld_row hp hB ‹_› ‹_› _ _ rfl ‹_› (by rfl) ?_))|((with_reducible apply gen_id);apply gen_len;exact rfl;exact rfl;assumption)|((with_reducible apply dr_id);refine dr_auto tabOk (by kernel_rfl) (by decide+kernel) ?_;(try replace hp:=hp.drew))|((with_reducible apply rd_id);(refine rd_ixs rfl rfl ‹_› rfl rfl (by omega) ?_)))<;>(conv=>whnf)))
   all_goals exact ps_val (v':= .bool false) rfl ⟨by rw [p_ne hxx hyy hne],hp.chg⟩
 ·rw [List.take_of_length_le hge,List.take_of_length_le (by omega)] at hall
  ((conv=>whnf);repeat' ((first|((with_reducible apply br_id);(with_reducible refine br_dec (fun hx=>?_) (fun hx=>?_))<;>(try (exfalso;first|omega|contradiction)))|((with_reducible apply gen_id);apply gen_len;exact rfl;exact rfl;assumption))<;>(conv=>whnf)))
  exact ps_val (v':= .bool true) rfl ⟨by rw [decide_eq_true hall],hp.chg⟩
end Go.Proofs.YtpbapnlnheahnaaGreatDoor
