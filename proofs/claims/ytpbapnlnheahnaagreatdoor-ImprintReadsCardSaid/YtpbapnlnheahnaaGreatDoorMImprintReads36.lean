/- MImprintReads36: parts of the proof of ImprintReads: DocR3, DocR4, DocR5, DocR, Rdr9. No condition of their own. -/
import Derived.Test.YtpbapnlnheahnaaGreatDoorMImprintReads35
import Derived.Test.YtpbapnlnheahnaaGreatDoorMImprintReads21
import Derived.Test.YtpbapnlnheahnaaGreatDoorMImprintReads34
set_option linter.unusedSimpArgs false
set_option linter.unusedVariables false
namespace Go.Proofs.YtpbapnlnheahnaaGreatDoor
open Go.RowKit
set_option maxRecDepth 100000
set_option maxHeartbeats 4000000
theorem rses31_any {B:Nat} {w0:World} {x:Sta} (hs:StaAt B w0 x) (hf:FewI x):Calls Tryz.prog 37 #[x.v] w0 fun e w'=>e= .returned (.bool (sesS x.next x.cfg.ses x.ses.l))∧Chg N0 w0 w':=by
 have hp:=Hp.start (S:=N0) w0
 have hB:∀b,N0 b→B≤b:=fun _ hh=>hh.elim
 have u1:=Tryz.underlying27
 have f1:=hf.ses
 unfold sesS
 refine calls_x (args:= [_]) tabOk Tryz.func37 Tryz.ntmps37 Tryz.results37 rfl (Nat.le_of_ble_eq_true rfl) ?_
 ((conv=>whnf);repeat' (((with_reducible apply al_id);refine al_cel hp ?_;clear hp;intro bb w hp)<;>(conv=>whnf)))
 obtain ⟨b1,hb1⟩:∃x,x=bb:=⟨_,rfl⟩
 subst hb1
 refine lp_inv (α:=Nat) (fun i=> [(1,ptr b1),(3,i64 i)]) (fun i w=>i≤x.ses.l.length∧(∀k,k < i→sesAt x.next x.ses.l k=true)∧Hp N0 w0 w [cel b1 31 x.c.toArray]) (fun i=>x.ses.l.length - i) 0 (by (repeat' (first|exact trivial|(refine ⟨rfl,?_⟩)))) ⟨by omega,fun k hk=>absurd hk (by omega),hp⟩ ?_
 clear hp
 rintro i e0 w ⟨hi,hall,hp⟩
 dsimp only at hi hall hp ⊢
 rcases Nat.lt_or_ge i x.ses.l.length with hlt|hge
 ·obtain ⟨b,o,y,hA,hbb,hrow,hyy⟩:=hs.ses.has hlt
  have hno:∀{w:World},sesAt x.next x.ses.l i=false→Chg N0 w0 w→Ending.returned (.bool false)= .returned (.bool ((List.range x.ses.l.length).all (sesAt x.next x.ses.l) && decide ((x.ses.l.length:Int)≤x.cfg.ses)))∧Chg N0 w0 w:=fun hn hc=>⟨by rw [show (List.range x.ses.l.length).all (sesAt x.next x.ses.l)=false from allR_no hlt hn,Bool.false_and],hc⟩
  cases i with
  |zero=>
   have hE:sesAt x.next x.ses.l 0=(decide (y.id.toNat < x.next.toNat) && (true && decide (1≤y.quota.toNat∧y.quota.toNat≤64∧y.used.toNat≤y.quota.toNat))):=by unfold sesAt;rw [hyy];rfl
   rw [Bool.true_and] at hE
   ((conv=>whnf);repeat' ((first|((with_reducible apply br_id);first|with_reducible refine br_t ?_|with_reducible refine br_f ?_|((with_reducible refine br_dec (fun hx=>?_) (fun hx=>?_))<;>(try (exfalso;first|omega|contradiction))))|((with_reducible apply ar_id);refine ar_i64 (by omega) ?_)|((with_reducible apply cn_id);refine cn rfl ?_)|((with_reducible apply ld_id);apply ld_hs hp;(focus repeat' constructor);exact rfl)|((with_reducible apply ldn_id);(refine ldn_rowx hp hB ‹_› ‹_› _ rfl ‹_› rfl ?_))|((with_reducible apply al_id);refine al_cel hp ?_;clear hp;intro bb w hp)|((with_reducible apply st_id);apply sta_hs hp;(focus repeat' constructor);exact rfl;exact rfl;clear hp;intro w hp;(try dsimp only [List.set] at hp))|((with_reducible apply gen_id);first|(refine gen_ixs rfl rfl ‹_› rfl rfl (by omega) ?_)|(apply gen_len;exact rfl;exact rfl;assumption))|((with_reducible apply dr_id);refine dr_auto tabOk (by kernel_rfl) (by decide+kernel) ?_;(try replace hp:=hp.drew)))<;>(conv=>whnf)))
   all_goals first
    |(refine ps_val (v':= .bool false) rfl (hno ?_ hp.chg)
      rw [hE,Bool.and_eq_false_iff,decide_eq_false_iff_not,decide_eq_false_iff_not]
      omega)
    |(refine lp_next (0+1) (by show x.ses.l.length - (0+1) < x.ses.l.length - 0;omega) (by (repeat' (first|exact trivial|(refine ⟨rfl,?_⟩)))) ⟨by show 0+1≤_;omega,all_step hall ?_,hp.tail⟩
      rw [hE,Bool.and_eq_true,decide_eq_true_eq,decide_eq_true_eq]
      omega)
  |succ k=>
   obtain ⟨z,hz⟩:∃z,x.ses.l[k]? =some z:=⟨_,List.getElem?_eq_getElem (by omega)⟩
   have hE:sesAt x.next x.ses.l (k+1)=(decide (y.id.toNat < x.next.toNat) && (decide (z.id.toNat < y.id.toNat) && decide (1≤y.quota.toNat∧y.quota.toNat≤64∧y.used.toNat≤y.quota.toNat))):=by unfold sesAt ascAt;rw [hyy];dsimp only;rw [hz]
   ((conv=>whnf);repeat' ((first|((with_reducible apply br_id);first|with_reducible refine br_t ?_|with_reducible refine br_f ?_|((with_reducible refine br_dec (fun hx=>?_) (fun hx=>?_))<;>(try (exfalso;first|omega|contradiction))))|((with_reducible apply ar_id);first|(refine ar_n (k) (by omega) (by omega) ?_)|refine ar_i64 (by omega) ?_)|((with_reducible apply cn_id);refine cn rfl ?_)|((with_reducible apply ld_id);first|(refine ld_row hp hB ‹_› ‹_› _ _ rfl ‹_› (by rfl) ?_)|(apply ld_hs hp;(focus repeat' constructor);exact rfl))|((with_reducible apply ldn_id);(refine ldn_rowx hp hB ‹_› ‹_› _ rfl ‹_› rfl ?_))|((with_reducible apply al_id);refine al_cel hp ?_;clear hp;intro bb w hp)|((with_reducible apply st_id);apply sta_hs hp;(focus repeat' constructor);exact rfl;exact rfl;clear hp;intro w hp;(try dsimp only [List.set] at hp))|((with_reducible apply gen_id);first|(refine gen_ixs rfl rfl ‹_› rfl rfl (by omega) ?_)|(apply gen_len;exact rfl;exact rfl;assumption))|((with_reducible apply dr_id);refine dr_auto tabOk (by kernel_rfl) (by decide+kernel) ?_;(try replace hp:=hp.drew))|((with_reducible apply rd_id);(refine rd_ixs rfl rfl ‹_› rfl rfl (by omega) ?_)))<;>(conv=>whnf)))
   all_goals first
    |(refine ps_val (v':= .bool false) rfl (hno ?_ hp.chg)
      rw [hE,Bool.and_eq_false_iff,Bool.and_eq_false_iff,decide_eq_false_iff_not,decide_eq_false_iff_not,decide_eq_false_iff_not]
      omega)
    |(refine lp_next (k+1+1) (by show x.ses.l.length - (k+1+1) < x.ses.l.length - (k+1);omega) (by (repeat' (first|exact trivial|(refine ⟨rfl,?_⟩)))) ⟨by show k+1+1≤_;omega,all_step hall ?_,hp.tail⟩
      rw [hE,Bool.and_eq_true,Bool.and_eq_true,decide_eq_true_eq,decide_eq_true_eq,decide_eq_true_eq]
      omega)
 ·rw [show (List.range x.ses.l.length).all (sesAt x.next x.ses.l)=true from allR_yes fun k hk=>hall k (by omega),Bool.true_and]
  ((conv=>whnf);repeat' ((first|((with_reducible apply br_id);(with_reducible refine br_dec (fun hx=>?_) (fun hx=>?_))<;>(try (exfalso;first|omega|contradiction)))|((with_reducible apply ld_id);apply ld_hs hp;(focus repeat' constructor);exact rfl)|((with_reducible apply gen_id);apply gen_len;exact rfl;exact rfl;assumption))<;>(conv=>whnf)))
  exact ps_val (v':= .bool (decide ((x.ses.l.length:Int)≤x.cfg.ses))) rfl ⟨rfl,hp.chg⟩
theorem rblobs31_any {B:Nat} {w0:World} {x:Sta} (hs:StaAt B w0 x) (hf:FewI x):Calls Tryz.prog 38 #[x.v] w0 fun e w'=>e= .returned (.bool (blobS x.ses.l (x.blobs.l.map Blob.p)))∧Chg N0 w0 w':=by
 have hp:=Hp.start (S:=N0) w0
 have hB:∀b,N0 b→B≤b:=fun _ hh=>hh.elim
 have u1:=Tryz.underlying27
 have u2:=Tryz.underlying28
 have u5:=Tryz.underlying34
 have f1:=hf.ses
 have f2:=hf.blobs
 have hle:=hs.blobs.row.le
 refine calls_x (args:= [_]) tabOk Tryz.func38 Tryz.ntmps38 Tryz.results38 rfl (Nat.le_of_ble_eq_true rfl) ?_
 ((conv=>whnf);repeat' (((with_reducible apply al_id);refine al_cel hp ?_;clear hp;intro bb w hp)<;>(conv=>whnf)))
 obtain ⟨b1,hb1⟩:∃x,x=bb:=⟨_,rfl⟩
 subst hb1
 refine lp_inv (α:=Nat) (fun i=> [(1,ptr b1),(3,i64 i)]) (fun i w=>i≤x.blobs.l.length∧(∀k,k < i→blobAt x.ses.l (x.blobs.l.map Blob.p) k=true)∧Hp N0 w0 w [cel b1 31 x.c.toArray]) (fun i=>x.blobs.l.length - i) 0 (by (repeat' (first|exact trivial|(refine ⟨rfl,?_⟩)))) ⟨by omega,fun k hk=>absurd hk (by omega),hp⟩ ?_
 clear hp
 rintro i e0 w ⟨hi,hall,hp⟩
 dsimp only at hi hall hp ⊢
 rcases Nat.lt_or_ge i x.blobs.l.length with hlt|hge
 ·obtain ⟨b,o,y,hA,hbb,hrow,hyy⟩:=hs.blobs.row.has hlt
  have hmem:=List.mem_of_getElem? hyy
  have hyd:=hf.data y hmem
  have hyp:(x.blobs.l.map Blob.p)[i]? =some y.p:=by rw [List.getElem?_map,hyy];rfl
  have hba:blobAt x.ses.l (x.blobs.l.map Blob.p) i=(useOk y.key.seq (byId x.ses.l y.key.ses) && decide (addE ((x.blobs.l.map Blob.p).take i) y.p=0)):=by unfold blobAt;rw [hyp];rfl
  have hno:∀{w:World},blobAt x.ses.l (x.blobs.l.map Blob.p) i=false→Chg N0 w0 w→Ending.returned (.bool false)= .returned (.bool (blobS x.ses.l (x.blobs.l.map Blob.p)))∧Chg N0 w0 w:=fun hn hc=>⟨by rw [show blobS x.ses.l (x.blobs.l.map Blob.p)=false from allR_no (by rw [List.length_map];exact hlt) hn],hc⟩
  obtain ⟨m,hm⟩:∃m,fndV (x.blobs.l.take i) y.key=m:=⟨_,rfl⟩
  have hfb:∀{w:World},Chg N0 w0 w→Calls Tryz.prog 94 #[(x.blobs.cut 19 0 i).v,y.key.v] w fun e w'=>e= .returned (i64 m)∧Chg N0 w w':=fun hc=>by
   have:=rfind25_any ((hs.blobs.row.cut (lo:=0) (hi:=i) (by omega) (by omega)).keep hc hB) y.key
   rw [take_cut,hm] at this
   exact this
  have hmm:0≤m↔y.p.key∈((x.blobs.l.map Blob.p).take i).map (·.key):=by
   rw [←hm,←List.map_take]
   have:=fnd_mem (x.blobs.l.take i) y.key
   unfold fndV
   cases hk:fndK (x.blobs.l.take i) y.key with
   |none=>
    rw [hk] at this
    have h2:=of_decide_eq_false this.symm
    exact ⟨fun h=>by dsimp only at h;omega,fun h=>(h2 h).elim⟩
   |some j=>
    rw [hk] at this
    have h2:=of_decide_eq_true this.symm
    exact ⟨fun _=>h2,fun _=>Int.natCast_nonneg _⟩
  have hE:∀{b:Bool},decide (addE ((x.blobs.l.map Blob.p).take i) y.p=0)=b→b=decide (y.data.l.length≤600∧¬0≤m):=fun {b} hb=>by
   rw [←hb]
   unfold addE
   by_cases h6:600 < y.p.bytes.length
   ·have h6':600 < y.data.l.length:=h6
    rw [if_pos h6,decide_eq_false (by omega),decide_eq_false (by omega)]
   ·have h6':¬600 < y.data.l.length:=h6
    rw [if_neg h6]
    by_cases hk:y.p.key∈((x.blobs.l.map Blob.p).take i).map (·.key)
    ·rw [if_pos hk,decide_eq_false (by omega),decide_eq_false (fun hh=>hh.2 (hmm.2 hk))]
    ·rw [if_neg hk,decide_eq_true (by omega),decide_eq_true ⟨by omega,fun hh=>hk (hmm.1 hh)⟩]
  have hba:=hba.trans (congrArg (useOk y.key.seq (byId x.ses.l y.key.ses) && ·) (hE rfl))
  have hsn:∀{w:World},Chg N0 w0 w→Calls Tryz.prog 93 #[x.ses.v,u32 y.key.ses] w fun e w'=>e= .returned (i64 (fndI x.ses.l y.key.ses))∧Chg N0 w w':=fun hc=>rfind23_any (hs.ses.keep hc hB) y.key.ses (by omega)
  rcases fnd_cases x.ses.l y.key.ses with ⟨n,z,hz,hzi,hzn,hby,hfi⟩|⟨_,hby,hfi⟩
  ·have hzl:=(List.getElem?_eq_some_iff.1 hz).1
   obtain ⟨bz,oz,z',hAz,hbz,hroz,hz'⟩:=hs.ses.has hzl
   obtain rfl:z'=z:=Option.some.inj (hz'.symm.trans hz)
   rw [hby] at hba
   rw [hfi] at hsn
   have hba:blobAt x.ses.l (x.blobs.l.map Blob.p) i=(decide (y.key.seq.toNat < z'.used.toNat) && decide (y.data.l.length≤600∧¬0≤m)):=hba
   ((conv=>whnf);repeat' ((first|((with_reducible apply br_id);(with_reducible refine br_dec (fun hx=>?_) (fun hx=>?_))<;>(try (exfalso;first|omega|contradiction)))|((with_reducible apply cn_id);refine cn rfl ?_)|((with_reducible apply ld_id);apply ld_hs hp;(focus repeat' constructor);exact rfl)|((with_reducible apply ldn_id);(refine ldn_rowx hp hB ‹_› ‹_› _ rfl ‹_› rfl ?_))|((with_reducible apply al_id);refine al_cel hp ?_;clear hp;intro bb w hp)|((with_reducible apply st_id);apply sta_hs hp;(focus repeat' constructor);exact rfl;exact rfl;clear hp;intro w hp;(try dsimp only [List.set] at hp))|((with_reducible apply gen_id);first|(refine gen_ixs rfl rfl ‹_› rfl rfl (by omega) ?_)|(apply gen_len;exact rfl;exact rfl;assumption))|((with_reducible apply cl_id);(refine cl_eq ((hsn hp.chg)) rfl rfl ?_;rintro e w ⟨rfl,hcc⟩;replace hp:=hp.call0 hcc;refine ⟨_,rfl,?_⟩)))<;>(conv=>whnf)))
   refine dr_autos [] 1000 tabOk (by kernel_rfl) (by decide+kernel) ?_
   replace hp:=hp.drew
   ((conv=>whnf);repeat' ((first|((with_reducible apply br_id);first|with_reducible refine br_t ?_|with_reducible refine br_f ?_|((with_reducible refine br_dec (fun hx=>?_) (fun hx=>?_))<;>(try (exfalso;first|omega|contradiction))))|((with_reducible apply ar_id);refine ar_i64 (by omega) ?_)|((with_reducible apply cn_id);refine cn ‹_› ?_)|((with_reducible apply ld_id);first|(refine ld_row hp hB ‹_› ‹_› _ _ rfl ‹_› (by rfl) ?_)|(apply ld_hs hp;(focus repeat' constructor);exact rfl))|((with_reducible apply gen_id);apply gen_build;exact rfl;exact rfl)|((with_reducible apply cl_id);(refine cl_eq ((hfb hp.chg)) rfl rfl ?_;rintro e w ⟨rfl,hcc⟩;replace hp:=hp.call0 hcc;refine ⟨_,rfl,?_⟩))|((with_reducible apply rd_id);first|(refine rd_ixs rfl rfl ‹_› rfl rfl (by omega) ?_)|(refine rd_cuth rfl el_blob x.blobs rfl hle rfl (h:=i) rfl (by omega) ?_)|(apply rd_len;exact rfl;exact rfl;assumption)))<;>(conv=>whnf)))
   all_goals first
    |(refine ps_val (v':= .bool false) rfl (hno ?_ hp.chg)
      rw [hba,Bool.and_eq_false_iff,decide_eq_false_iff_not,decide_eq_false_iff_not]
      omega)
    |(refine lp_next (i+1) (by show x.blobs.l.length - (i+1) < x.blobs.l.length - i;omega) (by (repeat' (first|exact trivial|(refine ⟨rfl,?_⟩)))) ⟨by show i+1≤_;omega,all_step hall ?_,hp.tail⟩
      rw [hba,Bool.and_eq_true,decide_eq_true_eq,decide_eq_true_eq]
      omega)
  ·rw [hby] at hba
   rw [hfi] at hsn
   have hba:blobAt x.ses.l (x.blobs.l.map Blob.p) i=false:=hba
   ((conv=>whnf);repeat' ((first|((with_reducible apply br_id);(with_reducible refine br_dec (fun hx=>?_) (fun hx=>?_))<;>(try (exfalso;first|omega|contradiction)))|((with_reducible apply cn_id);refine cn rfl ?_)|((with_reducible apply ld_id);apply ld_hs hp;(focus repeat' constructor);exact rfl)|((with_reducible apply ldn_id);(refine ldn_rowx hp hB ‹_› ‹_› _ rfl ‹_› rfl ?_))|((with_reducible apply al_id);refine al_cel hp ?_;clear hp;intro bb w hp)|((with_reducible apply st_id);apply sta_hs hp;(focus repeat' constructor);exact rfl;exact rfl;clear hp;intro w hp;(try dsimp only [List.set] at hp))|((with_reducible apply gen_id);first|(refine gen_ixs rfl rfl ‹_› rfl rfl (by omega) ?_)|(apply gen_len;exact rfl;exact rfl;assumption))|((with_reducible apply cl_id);(refine cl_eq ((hsn hp.chg)) rfl rfl ?_;rintro e w ⟨rfl,hcc⟩;replace hp:=hp.call0 hcc;refine ⟨_,rfl,?_⟩)))<;>(conv=>whnf)))
   refine dr_autos [] 1000 tabOk (by kernel_rfl) (by decide+kernel) ?_
   replace hp:=hp.drew
   ((conv=>whnf);repeat' (((with_reducible apply br_id);first|with_reducible refine br_t ?_|((with_reducible refine br_dec (fun hx=>?_) (fun hx=>?_))<;>(try (exfalso;first|omega|contradiction))))<;>(conv=>whnf)))
   all_goals exact ps_val (v':= .bool false) rfl (hno hba hp.chg)
 ·((conv=>whnf);repeat' ((first|((with_reducible apply br_id);(with_reducible refine br_dec (fun hx=>?_) (fun hx=>?_))<;>(try (exfalso;first|omega|contradiction)))|((with_reducible apply ld_id);apply ld_hs hp;(focus repeat' constructor);exact rfl)|((with_reducible apply gen_id);apply gen_len;exact rfl;exact rfl;assumption))<;>(conv=>whnf)))
  exact ps_val (v':= .bool true) rfl ⟨by rw [show blobS x.ses.l (x.blobs.l.map Blob.p)=true from allR_yes fun k hk=>hall k (by rw [List.length_map] at hk;omega)],hp.chg⟩
theorem rbre31_any {B:Nat} {w0:World} {x:Sta} (hs:StaAt B w0 x) (hf:FewI x) (hlv:∀j∈x.jobs.l, -9223372036854775808≤j.live∧j.live≤9223372036854775807):Calls Tryz.prog 39 #[x.v] w0 fun e w'=>e= .returned (.bool (jobS x.ht x.jobs.l))∧Chg N0 w0 w':=by
 have hp:=Hp.start (S:=N0) w0
 have hB:∀b,N0 b→B≤b:=fun _ hh=>hh.elim
 have u4:=Tryz.underlying29
 have f4:=hf.jobs
 have hle:=hs.jobs.le
 refine calls_x (args:= [_]) tabOk Tryz.func39 Tryz.ntmps39 Tryz.results39 rfl (Nat.le_of_ble_eq_true rfl) ?_
 ((conv=>whnf);repeat' (((with_reducible apply al_id);refine al_cel hp ?_;clear hp;intro bb w hp)<;>(conv=>whnf)))
 obtain ⟨b1,hb1⟩:∃x,x=bb:=⟨_,rfl⟩
 subst hb1
 refine lp_inv (α:=Nat) (fun i=> [(1,ptr b1),(3,i64 i)]) (fun i w=>i≤x.jobs.l.length∧(∀k,k < i→jobAt x.ht x.jobs.l k=true)∧Hp N0 w0 w [cel b1 31 x.c.toArray]) (fun i=>x.jobs.l.length - i) 0 (by (repeat' (first|exact trivial|(refine ⟨rfl,?_⟩)))) ⟨by omega,fun k hk=>absurd hk (by omega),hp⟩ ?_
 clear hp
 rintro i e0 w ⟨hi,hall,hp⟩
 dsimp only at hi hall hp ⊢
 rcases Nat.lt_or_ge i x.jobs.l.length with hlt|hge
 ·obtain ⟨b,o,y,hA,hbb,hrow,hyy⟩:=hs.jobs.has hlt
  have hmem:=List.mem_of_getElem? hyy
  have hno:∀{w:World},jobAt x.ht x.jobs.l i=false→Chg N0 w0 w→Ending.returned (.bool false)= .returned (.bool (jobS x.ht x.jobs.l))∧Chg N0 w0 w:=fun hn hc=>⟨by rw [show jobS x.ht x.jobs.l=false from allR_no hlt hn],hc⟩
  obtain ⟨q,hq⟩:∃q,rightJ y=q:=⟨_,rfl⟩
  have hrt:∀{w:World},Chg N0 w0 w→Calls Tryz.prog 95 #[y.v] w fun e w'=>e= .returned (.bool q)∧Chg N0 w w':=fun hc=>by rw [←hq];exact rjright29_any ((hs.pay y hmem).keep hc hB) (hlv y hmem)
  obtain ⟨m,hm⟩:∃m,fndBy (fun j:Job=>decide (j.key=y.key)) (x.jobs.l.take i)=m:=⟨_,rfl⟩
  have hfd:∀{w:World},Chg N0 w0 w→Calls Tryz.prog 96 #[(x.jobs.cut 38 0 i).v,y.key.v] w fun e w'=>e= .returned (i64 m)∧Chg N0 w w':=fun hc=>by
   have:=rjfind29_any ((hs.jobs.cut (lo:=0) (hi:=i) (by omega) (by omega)).keep hc hB) y.key
   rw [take_cut,hm] at this
   exact this
  have hmm:0≤m↔y.key∈(x.jobs.l.take i).map (·.key):=by
   rw [←hm,fndBy_ge,List.mem_map]
   simp only [decide_eq_true_eq]
  have hja:jobAt x.ht x.jobs.l i=(q && decide ((y.height.toNat≤x.ht.toNat∧y.mined.toNat≤x.ht.toNat)∧¬0≤m)):=by
   unfold jobAt
   rw [hyy]
   dsimp only
   rw [hq]
   refine congrArg (q && ·) (decide_eq_decide.2 ?_)
   rw [hmm]
  cases q with
  |false=>
   rw [Bool.false_and] at hja
   ((conv=>whnf);repeat' ((first|((with_reducible apply br_id);(with_reducible refine br_dec (fun hx=>?_) (fun hx=>?_))<;>(try (exfalso;first|omega|contradiction)))|((with_reducible apply cn_id);refine cn rfl ?_)|((with_reducible apply ld_id);apply ld_hs hp;(focus repeat' constructor);exact rfl)|((with_reducible apply ldn_id);(refine ldn_rowx hp hB ‹_› ‹_› _ rfl ‹_› rfl ?_))|((with_reducible apply al_id);refine al_cel hp ?_;clear hp;intro bb w hp)|((with_reducible apply st_id);apply sta_hs hp;(focus repeat' constructor);exact rfl;exact rfl;clear hp;intro w hp;(try dsimp only [List.set] at hp))|((with_reducible apply gen_id);first|(refine gen_ixs rfl rfl ‹_› rfl rfl (by omega) ?_)|(apply gen_len;exact rfl;exact rfl;assumption)))<;>(conv=>whnf)))
   refine dr_autos [] 1000 tabOk (by kernel_rfl) (by decide+kernel) ?_
   replace hp:=hp.drew
   ((conv=>whnf);repeat' ((first|((with_reducible apply br_id);first|with_reducible refine br_t ?_|with_reducible refine br_f ?_|with_reducible refine br_not ?_)|((with_reducible apply cn_id);refine cn ‹_› ?_)|((with_reducible apply ldn_id);apply lda_hs hp;(focus repeat' constructor);exact rfl)|((with_reducible apply cl_id);(refine cl_eq ((hrt hp.chg)) rfl rfl ?_;rintro e w ⟨rfl,hcc⟩;replace hp:=hp.call0 hcc;refine ⟨_,rfl,?_⟩)))<;>(conv=>whnf)))
   all_goals exact ps_val (v':= .bool false) rfl (hno hja hp.chg)
  |true=>
   rw [Bool.true_and] at hja
   ((conv=>whnf);repeat' ((first|((with_reducible apply br_id);(with_reducible refine br_dec (fun hx=>?_) (fun hx=>?_))<;>(try (exfalso;first|omega|contradiction)))|((with_reducible apply cn_id);refine cn rfl ?_)|((with_reducible apply ld_id);apply ld_hs hp;(focus repeat' constructor);exact rfl)|((with_reducible apply ldn_id);(refine ldn_rowx hp hB ‹_› ‹_› _ rfl ‹_› rfl ?_))|((with_reducible apply al_id);refine al_cel hp ?_;clear hp;intro bb w hp)|((with_reducible apply st_id);apply sta_hs hp;(focus repeat' constructor);exact rfl;exact rfl;clear hp;intro w hp;(try dsimp only [List.set] at hp))|((with_reducible apply gen_id);first|(refine gen_ixs rfl rfl ‹_› rfl rfl (by omega) ?_)|(apply gen_len;exact rfl;exact rfl;assumption)))<;>(conv=>whnf)))
   refine dr_autos [] 1000 tabOk (by kernel_rfl) (by decide+kernel) ?_
   replace hp:=hp.drew
   ((conv=>whnf);repeat' ((first|((with_reducible apply br_id);first|with_reducible refine br_t ?_|with_reducible refine br_f ?_|with_reducible refine br_not ?_|((with_reducible refine br_dec (fun hx=>?_) (fun hx=>?_))<;>(try (exfalso;first|omega|contradiction))))|((with_reducible apply ar_id);refine ar_i64 (by omega) ?_)|((with_reducible apply cn_id);refine cn ‹_› ?_)|((with_reducible apply ld_id);apply ld_hs hp;(focus repeat' constructor);exact rfl)|((with_reducible apply ldn_id);first|(apply lda_hs hp;(focus repeat' constructor);exact rfl)|(apply ldn_hs hp;(focus repeat' constructor);exact rfl;exact rfl))|((with_reducible apply cl_id);first|((refine cl_eq ((hrt hp.chg)) rfl rfl ?_;rintro e w ⟨rfl,hcc⟩;replace hp:=hp.call0 hcc;refine ⟨_,rfl,?_⟩))|((refine cl_eq ((hfd hp.chg)) rfl rfl ?_;rintro e w ⟨rfl,hcc⟩;replace hp:=hp.call0 hcc;refine ⟨_,rfl,?_⟩)))|((with_reducible apply rd_id);(refine rd_cuth rfl el_job x.jobs rfl hle rfl (h:=i) rfl (by omega) ?_)))<;>(conv=>whnf)))
   all_goals first
    |(refine ps_val (v':= .bool false) rfl (hno ?_ hp.chg)
      rw [hja,decide_eq_false_iff_not]
      omega)
    |(refine lp_next (i+1) (by show x.jobs.l.length - (i+1) < x.jobs.l.length - i;omega) (by (repeat' (first|exact trivial|(refine ⟨rfl,?_⟩)))) ⟨by show i+1≤_;omega,all_step hall ?_,hp.tail⟩
      rw [hja,decide_eq_true_eq]
      omega)
 ·((conv=>whnf);repeat' ((first|((with_reducible apply br_id);(with_reducible refine br_dec (fun hx=>?_) (fun hx=>?_))<;>(try (exfalso;first|omega|contradiction)))|((with_reducible apply ld_id);apply ld_hs hp;(focus repeat' constructor);exact rfl)|((with_reducible apply gen_id);apply gen_len;exact rfl;exact rfl;assumption))<;>(conv=>whnf)))
  exact ps_val (v':= .bool true) rfl ⟨by rw [show jobS x.ht x.jobs.l=true from allR_yes fun k hk=>hall k (by omega)],hp.chg⟩
theorem rchain31_any (w0:World) (x:Sta):Calls Tryz.prog 36 #[x.v] w0 fun e w'=>e= .returned (.agg #[i64 x.cfg.dep,u32 x.ht,x.win.v])∧Chg N0 w0 w':=by
 have hp:=Hp.start (S:=N0) w0
 refine calls_x (args:= [_]) tabOk Tryz.func36 Tryz.ntmps36 Tryz.results36 rfl (Nat.le_of_ble_eq_true rfl) ?_
 ((conv=>whnf);repeat' ((first|((with_reducible apply cn_id);refine cn rfl ?_)|((with_reducible apply ld_id);apply ld_hs hp;(focus repeat' constructor);exact rfl)|((with_reducible apply ldn_id);apply lda_hs hp;(focus repeat' constructor);exact rfl)|((with_reducible apply al_id);refine al_cel hp ?_;clear hp;intro bb w hp)|((with_reducible apply st_id);apply sta_hs hp;(focus repeat' constructor);exact rfl;exact rfl;clear hp;intro w hp;(try dsimp only [List.set] at hp))|((with_reducible apply gen_id);apply gen_build;exact rfl;exact rfl))<;>(conv=>whnf)))
 exact ps_val (v':= .agg #[i64 x.cfg.dep,u32 x.ht,x.win.v]) rfl ⟨rfl,hp.chg⟩
theorem rright31_any {B:Nat} {w0:World} {x:Sta} (hs:StaAt B w0 x) (hf:FewI x) (hlv:∀j∈x.jobs.l, -9223372036854775808≤j.live∧j.live≤9223372036854775807):Calls Tryz.prog 14 #[x.v] w0 fun e w'=>e= .returned (.bool (rightS x))∧Chg N0 w0 w':=by
 have hp:=Hp.start (S:=N0) w0
 have hB:∀b,N0 b→B≤b:=fun _ hh=>hh.elim
 obtain ⟨q1,h1⟩:∃q,soundC x.cfg=q:=⟨_,rfl⟩
 obtain ⟨q3,h3⟩:∃q,chS x.cfg.dep x.ht x.win.l=q:=⟨_,rfl⟩
 obtain ⟨q4,h4⟩:∃q,sesS x.next x.cfg.ses x.ses.l=q:=⟨_,rfl⟩
 obtain ⟨q5,h5⟩:∃q,blobS x.ses.l (x.blobs.l.map Blob.p)=q:=⟨_,rfl⟩
 obtain ⟨q6,h6⟩:∃q,jobS x.ht x.jobs.l=q:=⟨_,rfl⟩
 have c1:∀{w:World},Chg N0 w0 w→Calls Tryz.prog 34 #[x.cfg.v] w fun e w'=>e= .returned (.bool q1)∧Chg N0 w w':=fun hc=>by rw [←h1];exact rsound31_any _ _
 have c3:∀{w:World},Chg N0 w0 w→Calls Tryz.prog 35 #[.agg #[i64 x.cfg.dep,u32 x.ht,x.win.v]] w fun e w'=>e= .returned (.bool q3)∧Chg N0 w w':=fun hc=>by
  rw [←h3]
  have t:=hs.keep hc hB
  exact rright26_any _ _ t.win t.tx (by have:=hf.win;omega)
 have c4:∀{w:World},Chg N0 w0 w→Calls Tryz.prog 37 #[x.v] w fun e w'=>e= .returned (.bool q4)∧Chg N0 w w':=fun hc=>by rw [←h4];exact rses31_any (hs.keep hc hB) hf
 have c5:∀{w:World},Chg N0 w0 w→Calls Tryz.prog 38 #[x.v] w fun e w'=>e= .returned (.bool q5)∧Chg N0 w w':=fun hc=>by rw [←h5];exact rblobs31_any (hs.keep hc hB) hf
 have c6:∀{w:World},Chg N0 w0 w→Calls Tryz.prog 39 #[x.v] w fun e w'=>e= .returned (.bool q6)∧Chg N0 w w':=fun hc=>by rw [←h6];exact rbre31_any (hs.keep hc hB) hf hlv
 have hR:rightS x=(q1 && (decide (x.halt=0∨x.halt=19∨x.halt=20∨x.halt=16) && (q3 && (q4 && (q5 && q6))))):=by unfold rightS haltE;rw [h1,h3,h4,h5,h6]
 rw [hR]
 clear hR h1 h3 h4 h5 h6
 by_cases hH:x.halt=0∨x.halt=19∨x.halt=20∨x.halt=16
 ·rw [decide_eq_true hH,Bool.true_and]
  refine calls_x (args:= [_]) tabOk Tryz.func14 Tryz.ntmps14 Tryz.results14 rfl (Nat.le_of_ble_eq_true rfl) ?_
  ((conv=>whnf);repeat' ((first|((with_reducible apply br_id);first|with_reducible refine br_t ?_|with_reducible refine br_f ?_|((with_reducible refine br_eq (fun hx=>?_) (fun hx=>?_))<;>(try (exfalso;first|omega|contradiction)))|((with_reducible refine br_s (fun hx=>?_) (fun hx=>?_))<;>(try (exfalso;first|omega|contradiction))))|((with_reducible apply ld_id);apply ld_hs hp;(focus repeat' constructor);exact rfl)|((with_reducible apply ldn_id);first|(apply lda_hs hp;(focus repeat' constructor);exact rfl)|(apply ldn_hs hp;(focus repeat' constructor);exact rfl;exact rfl))|((with_reducible apply al_id);refine al_cel hp ?_;clear hp;intro bb w hp)|((with_reducible apply cl_id);first|((refine cl_eq ((c1 hp.chg)) rfl rfl ?_;rintro e w ⟨rfl,hcc⟩;replace hp:=hp.call0 hcc;refine ⟨_,rfl,?_⟩))|((refine cl_eq ((rchain31_any _ x)) rfl rfl ?_;rintro e w ⟨rfl,hcc⟩;replace hp:=hp.call0 hcc;refine ⟨_,rfl,?_⟩))|((refine cl_eq ((c3 hp.chg)) rfl rfl ?_;rintro e w ⟨rfl,hcc⟩;replace hp:=hp.call0 hcc;refine ⟨_,rfl,?_⟩))|((refine cl_eq ((c4 hp.chg)) rfl rfl ?_;rintro e w ⟨rfl,hcc⟩;replace hp:=hp.call0 hcc;refine ⟨_,rfl,?_⟩))|((refine cl_eq ((c5 hp.chg)) rfl rfl ?_;rintro e w ⟨rfl,hcc⟩;replace hp:=hp.call0 hcc;refine ⟨_,rfl,?_⟩))|((refine cl_eq ((c6 hp.chg)) rfl rfl ?_;rintro e w ⟨rfl,hcc⟩;replace hp:=hp.call0 hcc;refine ⟨_,rfl,?_⟩))))<;>(conv=>whnf)))
  all_goals first
   |(exfalso;omega)
   |exact ps_val (v':= .bool q6) rfl ⟨by simp_all,hp.chg⟩
   |exact ps_val (v':= .bool false) rfl ⟨by simp_all,hp.chg⟩
 ·rw [decide_eq_false hH,Bool.false_and,Bool.and_false]
  refine calls_x (args:= [_]) tabOk Tryz.func14 Tryz.ntmps14 Tryz.results14 rfl (Nat.le_of_ble_eq_true rfl) ?_
  ((conv=>whnf);repeat' ((first|((with_reducible apply br_id);first|with_reducible refine br_t ?_|with_reducible refine br_f ?_|((with_reducible refine br_eq (fun hx=>?_) (fun hx=>?_))<;>(try (exfalso;first|omega|contradiction)))|((with_reducible refine br_s (fun hx=>?_) (fun hx=>?_))<;>(try (exfalso;first|omega|contradiction))))|((with_reducible apply ld_id);apply ld_hs hp;(focus repeat' constructor);exact rfl)|((with_reducible apply ldn_id);first|(apply lda_hs hp;(focus repeat' constructor);exact rfl)|(apply ldn_hs hp;(focus repeat' constructor);exact rfl;exact rfl))|((with_reducible apply al_id);refine al_cel hp ?_;clear hp;intro bb w hp)|((with_reducible apply cl_id);first|((refine cl_eq ((c1 hp.chg)) rfl rfl ?_;rintro e w ⟨rfl,hcc⟩;replace hp:=hp.call0 hcc;refine ⟨_,rfl,?_⟩))|((refine cl_eq ((rchain31_any _ x)) rfl rfl ?_;rintro e w ⟨rfl,hcc⟩;replace hp:=hp.call0 hcc;refine ⟨_,rfl,?_⟩))|((refine cl_eq ((c3 hp.chg)) rfl rfl ?_;rintro e w ⟨rfl,hcc⟩;replace hp:=hp.call0 hcc;refine ⟨_,rfl,?_⟩))))<;>(conv=>whnf)))
  all_goals first
   |(exfalso;omega)
   |exact ps_val (v':= .bool false) rfl ⟨rfl,hp.chg⟩
open Go.RowKit Go.Stop
set_option maxHeartbeats 500000
theorem len7 {α:Type}:∀{l:List α},l.length=7→∃a b c d e f g,l= [a,b,c,d,e,f,g]
 | [a,b,c,d,e,f,g],_=>⟨a,b,c,d,e,f,g,rfl⟩
theorem len1 {α:Type}:∀{l:List α},l.length=1→∃a,l= [a]
 | [a],_=>⟨a,rfl⟩
theorem pc7 {s s':Rst} {x1 x2 x3 x4 x5 x6 x7:UInt32} (h:PcR s [x1,x2,x3,x4,x5,x6,x7] s'):Rv (rdR cfgC.dec s) ⟨x1.toNat,x2.toNat,x3.toNat,x4.toNat,x5.toNat,x6.toNat⟩∧Rv (rdR u32C.dec (lft (rdR cfgC.dec s))) x7∧s'=lft (rdR u32C.dec (lft (rdR cfgC.dec s))):=by
 obtain ⟨v1,v2,v3,v4,v5,v6,v7,rfl⟩:=h
 have e:lft (rdR cfgC.dec s)=lft (rdR intC.dec (lft (rdR intC.dec (lft (rdR intC.dec (lft (rdR intC.dec (lft (rdR intC.dec (lft (rdR intC.dec s))))))))))):=lft_map.trans (lft_seq.trans (lft_seq.trans (lft_seq.trans (lft_seq.trans lft_seq))))
 have w1:=rv_int v1
 have w2:=rv_int v2
 have w3:=rv_int v3
 have w4:=rv_int v4
 have w5:=rv_int v5
 have w6:=rv_int v6
 simp only [lft_int] at w2 w3 w4 w5 w6 v7
 refine ⟨rv_map (rv_seq w1 (rv_seq w2 (rv_seq w3 (rv_seq w4 (rv_seq w5 w6))))),by rw [e];exact v7,?_⟩
 rw [e]
 simp only [lft_int]
theorem staz_at {B:Nat} {w:World}:StaAt B w Sta.z:=⟨.none_,fun b hb=>(by cases hb), .none_,⟨.none_,fun b hb=>(by cases hb)⟩, .none_,fun j hj=>(by cases hj)⟩
abbrev docRs (x:Sta):List Res:= [star (winRs x.win),sesR x.ses,rowR 46 19 Blob.c x.blobs,star (jobRs x.jobs)]
theorem docRs_at {B:Nat} {w:World} {x:Sta} {s:Sl UInt8} (h:(star (docRs x)).ok w) (hq:SlAt B w u8L 1 s) (hB:B≤w.heap.size) (hs:∀y∈x.blobs.l,SubQ s y.data):StaAt w.heap.size w x:=by
 have hp:=Hp.open h
 have h1:=winRs_at (hp.get (j:=0) rfl)
 have h4:=jobRs_at (hp.get (j:=3) rfl)
 exact ⟨h1.1,h1.2,hp.row (j:=1) rfl,⟨hp.row (j:=2) rfl,fun y hy=>(hs y hy _ _ hq).more hB⟩,h4.1,h4.2⟩
theorem Hp.zeroDoc {S:Nat→Prop} {w0 w:World} {rs:List Res} (h:Hp S w0 w rs):Hp S w0 w (star (docRs Sta.z)::rs):=
 (((((h.nilRow 59 38 Job.c).fold 1).nilRow 46 19 Blob.c).nilRow 103 4 Sess.c).nilRow 51 65 Blk.c).fold 1 |>.fold 4
theorem rv_sta {s:Rst} {c:Cfg} {ht nx:UInt32} {N:Nat} {W:Sl Blk} {S:Sl Sess} {V:Sl Blob} {J:Sl Job} (h1:Rv (rdR cfgC.dec s) c) (h2:Rv (rdR u32C.dec (lft (rdR cfgC.dec s))) ht) (h3:Rv (rdR haltC.dec (lft (rdR u32C.dec (lft (rdR cfgC.dec s))))) (N:Int)) (h4:Rv (rdR u32C.dec (lft (rdR haltC.dec (lft (rdR u32C.dec (lft (rdR cfgC.dec s))))))) nx)
  (h5:Rv (rdR (lstC N1 (pckC N2 blkF)).dec (lft (rdR u32C.dec (lft (rdR haltC.dec (lft (rdR u32C.dec (lft (rdR cfgC.dec s))))))))) (W.l.map Blk.p))
  (h6:Rv (rdR (lstC N1 sesC).dec (lft (rdR (lstC N1 (pckC N2 blkF)).dec (lft (rdR u32C.dec (lft (rdR haltC.dec (lft (rdR u32C.dec (lft (rdR cfgC.dec s))))))))))) S.l)
  (h7:Rv (rdR (lstC N2 blobC).dec (lft (rdR (lstC N1 sesC).dec (lft (rdR (lstC N1 (pckC N2 blkF)).dec (lft (rdR u32C.dec (lft (rdR haltC.dec (lft (rdR u32C.dec (lft (rdR cfgC.dec s))))))))))))) (V.l.map Blob.p))
  (h8:Rv (rdR (lstC N2 jobC).dec (lft (rdR (lstC N2 blobC).dec (lft (rdR (lstC N1 sesC).dec (lft (rdR (lstC N1 (pckC N2 blkF)).dec (lft (rdR u32C.dec (lft (rdR haltC.dec (lft (rdR u32C.dec (lft (rdR cfgC.dec s))))))))))))))) (J.l.map Job.p)):Rv (rdR staC.dec s) (Sta.p ⟨c,ht,N,nx,W,S,V,J⟩):=rv_map (rv_seq h1 (rv_seq h2 (rv_seq h3 (rv_seq h4 (rv_seq h5 (rv_seq h6 (rv_seq h7 h8)))))))
theorem rdecS_any {B:Nat} {w0:World} {s:Sl UInt8} (h:SlAt B w0 u8L 1 s) (hBw:B≤w0.heap.size) (hn:s.l.length≤1000000) (hf:∀x:Sta,wholeD staC s.l= .ok x.p→FewI x):Calls Tryz.prog 13 #[s.v] w0 fun e w'=>∃x:Sta,x.p=(decS s.l).1∧e= .returned (.tuple #[x.v,i64 (decS s.l).2])∧(∀y∈x.blobs.l,SubQ s y.data)∧Made (star (docRs x)) w0 w':=by
 have hp:=Hp.start (S:=N0) w0
 have hB:∀b,N0 b→B≤b:=fun _ hh=>hh.elim
 have uy:=Tryz.underlying34
 refine calls_x (args:= [_]) tabOk Tryz.func13 Tryz.ntmps13 Tryz.results13 rfl (Nat.le_of_ble_eq_true rfl) ?_
 ((conv=>whnf);repeat' ((first|((with_reducible apply br_id);(with_reducible refine br_dec (fun hx=>?_) (fun hx=>?_))<;>(try (exfalso;first|omega|contradiction)))|((with_reducible apply cn_id);refine cn rfl ?_)|((with_reducible apply ldn_id);apply lda_hs hp;(focus repeat' constructor);exact rfl)|((with_reducible apply al_id);refine al_cel hp ?_;clear hp;intro bb w hp)|((with_reducible apply st_id);apply sta_hs hp;(focus repeat' constructor);exact rfl;exact rfl;clear hp;intro w hp;(try dsimp only [List.set] at hp))|((with_reducible apply gen_id);first|(refine gen_build (t:=72) (out:=([.slice s.A s.l.length s.c,i64 0,i64 0])) rfl (by kernel_rfl) ?_)|(apply gen_build;exact rfl;exact rfl)|(apply gen_len;exact rfl;exact rfl;assumption)))<;>(conv=>whnf)))
 ·have hd:decS s.l=(zeroP,3):=by
   unfold decS
   rw [if_pos (by omega)]
  rw [hd]
  exact ps_val (v':= .tuple #[Sta.z.v,i64 3]) rfl ⟨Sta.z,rfl,rfl,(fun y hy=>(by cases hy)),hp.zeroDoc.made1 (j:=0) rfl⟩
 obtain ⟨b2,hb2⟩:∃b,b=bb:=⟨_,rfl⟩
 subst hb2
 have h6:s.l.length≤60000:=by omega
 have hI:RdD s.l 0 (.ok s.l):=⟨by omega, .inl ⟨rfl,rfl⟩⟩
 refine cl_eq (rpiece_any (s:= .ok s.l) 7 (by omega) hI hn (h.keep hp.chg hB)) rfl rfl ?_
 rintro r w ⟨L,p1,s1,hLl,hpc,hI1,rfl,hm⟩
 replace hp:=hp.add hm
 clear hm
 refine ⟨_,rfl,?_⟩
 obtain ⟨x1,x2,x3,x4,x5,x6,x7,hL⟩:=len7 hLl
 rw [hL] at hpc
 obtain ⟨hv1,hv2,rfl⟩:=pc7 hpc
 clear hpc hI
 ((conv=>whnf);repeat' ((first|((with_reducible apply cn_id);refine cn rfl ?_)|((with_reducible apply ldn_id);apply lda_hs hp;(focus repeat' constructor);exact rfl)|((with_reducible apply al_id);refine al_cel hp ?_;clear hp;intro bb w hp)|((with_reducible apply st_id);apply sta_hs hp;(focus repeat' constructor);exact rfl;exact rfl;clear hp;intro w hp;(try dsimp only [List.set] at hp)))<;>(conv=>whnf)))
 refine cl_eq (rNum9_any 1 N1 (fun _=>rfl) (by omega) hI1 hn (h.keep hp.chg hB)) rfl rfl ?_
 rintro r w ⟨N,p2,hv3,hN,hI2,rfl,hcc⟩
 replace hp:=hp.call0 hcc
 clear hcc
 refine ⟨_,rfl,?_⟩
 have hN:N < 256:=hN
 ((conv=>whnf);repeat' ((first|((with_reducible apply cn_id);refine cn rfl ?_)|((with_reducible apply ldn_id);apply lda_hs hp;(focus repeat' constructor);exact rfl)|((with_reducible apply st_id);apply sta_hs hp;(focus repeat' constructor);exact rfl;exact rfl;clear hp;intro w hp;(try dsimp only [List.set] at hp)))<;>(conv=>whnf)))
 refine cl_eq (rpiece_any 1 (by omega) hI2 hn (h.keep hp.chg hB)) rfl rfl ?_
 rintro r w ⟨M,p3,s3,hMl,hpc,hI3,rfl,hm⟩
 replace hp:=hp.add hm
 clear hm
 refine ⟨_,rfl,?_⟩
 obtain ⟨nx,hM⟩:=len1 hMl
 rw [hM] at hpc
 obtain ⟨hv4,rfl⟩:=hpc
 obtain ⟨b4,hb4⟩:∃b,b=bb:=⟨_,rfl⟩
 subst hb4
 ((conv=>whnf);repeat' ((first|((with_reducible apply cn_id);refine cn rfl ?_)|((with_reducible apply st_id);apply sta_hs hp;(focus repeat' constructor);exact rfl;exact rfl;clear hp;intro w hp;(try dsimp only [List.set] at hp)))<;>(conv=>whnf)))
 have hlh:∀s,lft (rdR N1.dec s)=lft (rdR haltC.dec s):=fun s=>lft_map.symm
 rw [hlh] at hp hI3 hv4
 replace hv3:Rv (rdR haltC.dec (lft (rdR u32C.dec (lft (rdR cfgC.dec (.ok s.l)))))) (N:Int):=rv_map hv3
 have hk0:L.l[0]? =some x1:=by rw [hL];rfl
 have hy0:x1.toNat < 4294967296:=x1.toNat_lt
 have hk1:L.l[1]? =some x2:=by rw [hL];rfl
 have hy1:x2.toNat < 4294967296:=x2.toNat_lt
 have hk2:L.l[2]? =some x3:=by rw [hL];rfl
 have hy2:x3.toNat < 4294967296:=x3.toNat_lt
 have hk3:L.l[3]? =some x4:=by rw [hL];rfl
 have hy3:x4.toNat < 4294967296:=x4.toNat_lt
 have hk4:L.l[4]? =some x5:=by rw [hL];rfl
 have hy4:x5.toNat < 4294967296:=x5.toNat_lt
 have hk5:L.l[5]? =some x6:=by rw [hL];rfl
 have hy5:x6.toNat < 4294967296:=x6.toNat_lt
 have hk6:L.l[6]? =some x7:=by rw [hL];rfl
 have hy6:x7.toNat < 4294967296:=x7.toNat_lt
 have hk7:M.l[0]? =some nx:=by rw [hM];rfl
 obtain ⟨bL,oL,zL,hA, -, -, -⟩:=(hp.row (j:=2) rfl).has (i:=0) (by omega)
 obtain ⟨bM,oM,zM,hA2, -, -, -⟩:=(hp.row (j:=0) rfl).has (i:=0) (by omega)
 refine dr_cut (fun e w=>∃(b8:Nat) (e0:Nat→Value),e=eat [(0,s.v),(2,ptr b2),(4,ptr b4),(8,ptr b8)] ⟨e0, []⟩∧Hp N0 w0 w [cel b4 72 (rc9 s p3 (lft (rdR u32C.dec (lft (rdR haltC.dec (lft (rdR u32C.dec (lft (rdR cfgC.dec (.ok s.l)))))))))),cel b8 31 (Sta.c ⟨⟨x1.toNat,x2.toNat,x3.toNat,x4.toNat,x5.toNat,x6.toNat⟩,x7,N,nx,Sl.nil,Sl.nil,Sl.nil,Sl.nil⟩).toArray,cel b2 31 (Sta.c Sta.z).toArray]) ?_ ?_
 ·refine dr_autos [] 1000 tabOk (by kernel_rfl) (by decide+kernel) ?_
  replace hp:=hp.drew
  ((conv=>whnf);repeat' ((first|((with_reducible apply ar_id);refine ar_i64 (by omega) ?_)|((with_reducible apply cn_id);refine cn rfl ?_)|((with_reducible apply ld_id);first|(refine ld_own0 hp 2 rfl hA 0 rfl hk0 rfl ?_)|(refine ld_own0 hp 2 rfl hA 1 rfl hk1 rfl ?_)|(refine ld_own0 hp 2 rfl hA 2 rfl hk2 rfl ?_)|(refine ld_own0 hp 2 rfl hA 3 rfl hk3 rfl ?_)|(refine ld_own0 hp 2 rfl hA 4 rfl hk4 rfl ?_)|(refine ld_own0 hp 2 rfl hA 5 rfl hk5 rfl ?_)|(refine ld_own0 hp 2 rfl hA 6 rfl hk6 rfl ?_)|(refine ld_own0 hp 0 rfl hA2 0 rfl hk7 rfl ?_))|((with_reducible apply al_id);refine al_cel hp ?_;clear hp;intro bb w hp)|((with_reducible apply st_id);apply sta_hs hp;(focus repeat' constructor);exact rfl;exact rfl;clear hp;intro w hp;(try dsimp only [List.set] at hp))|((with_reducible apply gen_id);first|(refine gen_build (t:=31) (out:=(Sta.c ⟨⟨x1.toNat,x2.toNat,x3.toNat,x4.toNat,x5.toNat,x6.toNat⟩,x7,N,nx,Sl.nil,Sl.nil,Sl.nil,Sl.nil⟩)) rfl (by kernel_rfl) ?_)|(apply gen_build;exact rfl;exact rfl))|((with_reducible apply fk_id);refine fk_mk ?_ ?_)|((with_reducible apply rd_id);first|(refine rd_ixs (sz:=1) (n0:=0) rfl rfl hA rfl (by kernel_rfl) (by omega) ?_)|(refine rd_ixs (sz:=1) (n0:=0) rfl rfl hA2 rfl (by kernel_rfl) (by omega) ?_)|(refine rd_conv tabOk rfl rfl rfl rfl ?_)))<;>(conv=>whnf)))
  all_goals exact ⟨bb,_,eat_holds (by (repeat' (first|exact trivial|(refine ⟨rfl,?_⟩)))),hp.pick [2,0,4] (by decide) rfl⟩
 clear hp
 rintro e w ⟨b8,e0,rfl,hp⟩
 clear hA hA2 hk0 hk1 hk2 hk3 hk4 hk5 hk6 hk7 hy0 hy1 hy2 hy3 hy4 hy5 hy6 hL hM hlh
 obtain ⟨c,hcf⟩:∃c:Cfg,c=⟨x1.toNat,x2.toNat,x3.toNat,x4.toNat,x5.toNat,x6.toNat⟩:=⟨_,rfl⟩
 rw [←hcf] at hv1 hp
 clear hcf
 ((conv=>whnf);repeat' (((with_reducible apply ldn_id);apply lda_hs hp;(focus repeat' constructor);exact rfl)<;>(conv=>whnf)))
 refine cl_eq (rblocks_any ⟨c,x7,N,nx,Sl.nil,Sl.nil,Sl.nil,Sl.nil⟩ rfl hI3 hn (h.keep hp.chg hB)) rfl rfl ?_
 rintro r w ⟨W,p4,hvW,hnW,hI4,rfl,hm⟩
 replace hp:=hp.add hm
 clear hm
 refine ⟨_,rfl,?_⟩
 dsimp only
 ((conv=>whnf);repeat' ((first|((with_reducible apply cn_id);refine cn rfl ?_)|((with_reducible apply ldn_id);apply lda_hs hp;(focus repeat' constructor);exact rfl)|((with_reducible apply st_id);apply sta_hs hp;(focus repeat' constructor);exact rfl;exact rfl;clear hp;intro w hp;(try dsimp only [List.set] at hp)))<;>(conv=>whnf)))
 refine cl_eq (rsessions_any ⟨c,x7,N,nx,W,Sl.nil,Sl.nil,Sl.nil⟩ rfl hI4 hn (h.keep hp.chg hB)) rfl rfl ?_
 rintro r w ⟨S,p5,hvS,hnS,hI5,rfl,hm⟩
 replace hp:=hp.add hm
 clear hm
 refine ⟨_,rfl,?_⟩
 dsimp only
 ((conv=>whnf);repeat' ((first|((with_reducible apply cn_id);refine cn rfl ?_)|((with_reducible apply ldn_id);apply lda_hs hp;(focus repeat' constructor);exact rfl)|((with_reducible apply st_id);apply sta_hs hp;(focus repeat' constructor);exact rfl;exact rfl;clear hp;intro w hp;(try dsimp only [List.set] at hp)))<;>(conv=>whnf)))
 refine cl_eq (rblobs_any ⟨c,x7,N,nx,W,S,Sl.nil,Sl.nil⟩ rfl hI5 hn (h.keep hp.chg hB)) rfl rfl ?_
 rintro r w ⟨V,p6,hvV,hnV,hVs,hI6,rfl,hm⟩
 replace hp:=hp.add hm
 clear hm
 refine ⟨_,rfl,?_⟩
 dsimp only
 ((conv=>whnf);repeat' ((first|((with_reducible apply cn_id);refine cn rfl ?_)|((with_reducible apply ldn_id);apply lda_hs hp;(focus repeat' constructor);exact rfl)|((with_reducible apply st_id);apply sta_hs hp;(focus repeat' constructor);exact rfl;exact rfl;clear hp;intro w hp;(try dsimp only [List.set] at hp)))<;>(conv=>whnf)))
 refine cl_eq (rjobs_any ⟨c,x7,N,nx,W,S,V,Sl.nil⟩ rfl hI6 hn (h.keep hp.chg hB) (Nat.le_trans hBw hp.chg.size)) rfl rfl ?_
 rintro r w ⟨J,p7,hvJ,hnJ,hI7,rfl,hm⟩
 replace hp:=hp.add hm
 clear hm
 refine ⟨_,rfl,?_⟩
 dsimp only
 have hv:=rv_sta hv1 hv2 hv3 hv4 hvW hvS hvV hvJ
 have hl:lft (rdR staC.dec (.ok s.l))=_:=lft_map.trans (lft_seq.trans (lft_seq.trans (lft_seq.trans (lft_seq.trans (lft_seq.trans (lft_seq.trans lft_seq))))))
 rw [←hl] at hI7 ⊢
 have hv:Rv (staC.dec s.l) (Sta.p ⟨c,x7,N,nx,W,S,V,J⟩):=hv
 have hI7:RdD s.l p7 (lft (staC.dec s.l)):=hI7
 have hd:=decS_end h6 hv
 have hw:=whole_end hv
 rw [rightSP_eq] at hd
 obtain ⟨s7,hs7⟩:∃s7,lft (rdR staC.dec (.ok s.l))=s7:=⟨_,rfl⟩
 have hs7':lft (staC.dec s.l)=s7:=hs7
 rw [hs7] at ⊢
 rw [hs7'] at hd hw hI7
 have hdone:=fun {w:World}=>rDone9_any (w0:=w) hI7 hn
 obtain ⟨E,hE⟩:∃E,rdEnd s7=E:=⟨_,rfl⟩
 rw [hE] at hd hw hdone
 obtain ⟨x,hxX⟩:∃x:Sta,x=⟨c,x7,N,nx,W,S,V,J⟩:=⟨_,rfl⟩
 have hat:∀{w:World} {rs:List Res},Hp N0 w0 w rs→star (winRs W)∈rs→sesR S∈rs→rowR 46 19 Blob.c V∈rs→star (jobRs J)∈rs→StaAt w.heap.size w x:=fun hp m1 m2 m3 m4=>by
  rw [hxX]
  have h1:=winRs_at (hp.ok _ m1)
  have h4:=jobRs_at (hp.ok _ m4)
  exact ⟨h1.1,h1.2,rowR_at (hp.ok _ m2),⟨rowR_at (hp.ok _ m3),fun y hy=>(hVs y hy _ _ (h.keep hp.chg hB)).more (Nat.le_trans hBw hp.chg.size)⟩,h4.1,h4.2⟩
 have hxv:Sta.v ⟨c,x7,N,nx,W,S,V,J⟩=Sta.v x:=by rw [hxX]
 rw [←hxX] at hd hw
 rw [hxv]
 clear hv hl hs7 hs7' hv1 hv2 hv3 hv4 hvW hvS hvV hvJ hI1 hI2 hI3 hI4 hI5 hI6 hE
 obtain ⟨X,hX⟩:∃X:StaP×Int,decS s.l=X:=⟨_,rfl⟩
 rw [hX] at hd ⊢
 clear hX
 by_cases hE0:E=0
 ·have hfx:=hf x (hw hE0)
  have hlv:=live_dec (hw hE0)
  have hrt:=fun {w:World} (ha:StaAt w.heap.size w x)=>rright31_any ha hfx (fun j hj=>by rw [hlv j hj];decide)
  rw [if_pos hE0] at hd
  subst hE0
  clear hw
  obtain ⟨R,hR⟩:∃R,rightS x=R:=⟨_,rfl⟩
  rw [hR] at hd hrt
  ((conv=>whnf);repeat' ((first|((with_reducible apply br_id);first|with_reducible refine br_not ?_|((with_reducible refine br_ne (fun hx=>?_) (fun hx=>?_))<;>(try (exfalso;first|omega|contradiction)))|((with_reducible refine br_s (fun hx=>?_) (fun hx=>?_))<;>(try (exfalso;first|omega|contradiction))))|((with_reducible apply cn_id);refine cn rfl ?_)|((with_reducible apply ldn_id);apply lda_hs hp;(focus repeat' constructor);exact rfl)|((with_reducible apply st_id);apply sta_hs hp;(focus repeat' constructor);exact rfl;exact rfl;clear hp;intro w hp;(try dsimp only [List.set] at hp))|((with_reducible apply gen_id);apply gen_build;exact rfl;exact rfl)|((with_reducible apply cl_id);first|((refine cl_eq (hdone) rfl rfl ?_;rintro e w ⟨rfl,hcc⟩;replace hp:=hp.call0 hcc;refine ⟨_,rfl,?_⟩))|((refine cl_eq ((hrt (hat hp (by simp) (by simp) (by simp) (by simp)))) rfl rfl ?_;rintro e w ⟨rfl,hcc⟩;replace hp:=hp.call0 hcc;refine ⟨_,rfl,?_⟩))))<;>(conv=>whnf)))
  ·rw [if_pos ‹_›] at hd
   subst hd
   exact ps_val (v':= .tuple #[x.v,i64 0]) rfl ⟨x,rfl,rfl,(by rw [hxX];exact hVs),(by rw [hxX];exact ((hp.pick (rs':=docRs ⟨c,x7,N,nx,W,S,V,J⟩) [3,2,1,0] (by decide) rfl).fold 4).made1 (j:=0) rfl)⟩
  ·rw [if_neg (by rw [show R=false by assumption];decide)] at hd
   subst hd
   exact ps_val (v':= .tuple #[Sta.z.v,i64 4]) rfl ⟨Sta.z,rfl,rfl,(fun y hy=>(by cases hy)),hp.zeroDoc.made1 (j:=0) rfl⟩
 ·rw [if_neg hE0] at hd
  ((conv=>whnf);repeat' ((first|((with_reducible apply br_id);(with_reducible refine br_ne (fun hx=>?_) (fun hx=>?_))<;>(try (exfalso;first|omega|contradiction)))|((with_reducible apply cn_id);refine cn rfl ?_)|((with_reducible apply ldn_id);apply lda_hs hp;(focus repeat' constructor);exact rfl)|((with_reducible apply st_id);apply sta_hs hp;(focus repeat' constructor);exact rfl;exact rfl;clear hp;intro w hp;(try dsimp only [List.set] at hp))|((with_reducible apply gen_id);apply gen_build;exact rfl;exact rfl)|((with_reducible apply cl_id);(refine cl_eq (hdone) rfl rfl ?_;rintro e w ⟨rfl,hcc⟩;replace hp:=hp.call0 hcc;refine ⟨_,rfl,?_⟩)))<;>(conv=>whnf)))
  subst hd
  exact ps_val (v':= .tuple #[Sta.z.v,i64 E]) rfl ⟨Sta.z,rfl,rfl,(fun y hy=>(by cases hy)),hp.zeroDoc.made1 (j:=0) rfl⟩
end Go.Proofs.YtpbapnlnheahnaaGreatDoor
