/- MPlanTells31: Send2, Shelf4, Shelf5, Shelf6, Shelf7, Shelf8, Ref25, PayR, Blk3. -/
import Derived.Test.YteabebmlclgakaaGreatMPlanTells15
import Derived.Test.YteabebmlclgakaaGreatMPlanTells30
import Derived.Test.YteabebmlclgakaaGreatMPlanTells13
import Derived.Test.YteabebmlclgakaaGreatMPlanTells26
import Derived.Test.YteabebmlclgakaaGreatMPlanTells14
import Derived.Laws.OwnMore
import Derived.Test.YteabebmlclgakaaGreatMPlanTells22
import Derived.Test.YteabebmlclgakaaGreatMPlanTells12
import Derived.Test.YteabebmlclgakaaGreatMPlanTells20
set_option linter.unusedSimpArgs false
set_option linter.unusedVariables false
/- Send2: what is sent out of a state, by the document; what an evicted transaction makes of a list of jobs. Of states that are few. -/
namespace Go.Proofs.YteabebmlclgakaaGreat
open Go.RowKit
set_option maxRecDepth 100000
set_option maxHeartbeats 4000000
def sentB (ht:UInt32) (step:Int) (j:Job):Job:=match dueN j ht step with
 |none=>j
 |some n=>{j with live:=n}
theorem sentB_p (ht:UInt32) (step:Int) (j:Job):(sentB ht step j).p=sentJ ht step j.p:=by
 unfold sentB sentJ
 rw [dueN_p]
 cases dueP j.p ht step<;>rfl
theorem sentB_pay (ht:UInt32) (step:Int) (j:Job):(sentB ht step j).pay=j.pay:=by
 unfold sentB
 cases dueN j ht step<;>rfl
theorem subs_next {ht:UInt32} {step:Int} {J:List Job} {i:Nat} {y:Job} (hy:J[i]? =some y):subsP ht step ((J.take (i+1)).map Job.p)=subsP ht step ((J.take i).map Job.p)++(subO ht step y.p).toList:=by
 unfold subsP
 rw [List.take_add_one,hy,List.map_append,List.filterMap_append]
 congr 1
theorem rall34_any {B:Nat} {w0:World} {x:Sta} (hs:StaAt B w0 x) (hf:FewI x) (hst: -9223372036854775808≤x.cfg.stp∧x.cfg.stp≤9223372036854775807) (hh:x.halt=0):Calls Tryz.prog 22 #[x.v] w0 fun e w'=>∃(J:Sl Job) (O:Sl Sub),J.l=x.jobs.l.map (sentB x.ht x.cfg.stp)∧O.l.map Sub.p=subsP x.ht x.cfg.stp (x.jobs.l.map Job.p)∧e= .returned (.tuple #[Sta.v {x with jobs:=J},O.v])∧Made (star [rowR 49 38 Job.c J,star (subRs O)]) w0 w':=by
 have hp:=Hp.start (S:=N0) w0
 have hB:∀b,N0 b→B≤b:=fun _ hh=>hh.elim
 have u4:=Tryz.underlying29
 have us:=Tryz.underlying60
 have hn:=hf.jobs
 refine calls_x (args:= [_]) tabOk Tryz.func22 Tryz.ntmps22 Tryz.results22 rfl (Nat.le_of_ble_eq_true rfl) ?_
 ((conv=>whnf);repeat' ((first|((with_reducible refine br_id ?_);((with_reducible refine br_ne (fun hx=>?_) (fun hx=>?_))<;>(try (exfalso;first|omega|contradiction))))|((with_reducible refine ld_id ?_);(apply ld_hs hp;(focus repeat' constructor);exact rfl))|((with_reducible refine al_id ?_);(refine al_cel hp ?_;clear hp;intro bb w hp))|((with_reducible refine gen_id ?_);first|((refine gen_bs rfl hp el_job Job.c [] [] rfl rfl rfl (fun _ hh=>by cases hh) (by omega) ?_);clear hp;intro br w hp)|((refine gen_app (s:=⟨some ⟨br,0,none⟩,0, []⟩) rfl hp 0 rfl el_job rfl x.jobs rfl (hs.jobs.keep hp.chg hB) (fun _ _=>rfl) job_one (by simp only [List.length_nil];omega) (by simp only [maxLen,List.length_nil];omega) ?_);clear hp;intro A2 c2 w hp;dsimp only [List.set] at hp)))<;>(conv=>whnf)))
 all_goals first
  |(exfalso;omega)
  |skip
 obtain ⟨b2,hb2⟩:∃b,b=bb:=⟨_,rfl⟩
 subst hb2
 obtain ⟨b1,hb1⟩:∃b,b=bb:=⟨_,rfl⟩
 subst hb1
 have hp0:Hp N0 w0 w (rowR 49 38 Job.c ⟨A2,c2,(x.jobs.l.take 0).map (sentB x.ht x.cfg.stp)++x.jobs.l.drop 0⟩::cel b2 31 (Sta.c Sta.z).toArray::cel b1 31 x.c.toArray::subRs Sl.nil):=(hp.nilRow 69 37 Sub.c).pick [1,2,3,0] (by decide) rfl
 clear hp
 refine lp_inv (α:=Nat×Sl Sub) (fun a=> [(1,ptr b1),(2,ptr b2),(4,a.2.v),(5, .slice A2 x.jobs.l.length c2),(6,i64 a.1)]) (fun a w=>a.1≤x.jobs.l.length∧a.2.l.map Sub.p=subsP x.ht x.cfg.stp ((x.jobs.l.take a.1).map Job.p)∧Hp N0 w0 w (rowR 49 38 Job.c ⟨A2,c2,(x.jobs.l.take a.1).map (sentB x.ht x.cfg.stp)++x.jobs.l.drop a.1⟩::cel b2 31 (Sta.c Sta.z).toArray::cel b1 31 x.c.toArray::subRs a.2)) (fun a=>x.jobs.l.length - a.1) (0,Sl.nil) (by (repeat' (first|exact trivial|(refine ⟨rfl,?_⟩)))) ⟨by omega,rfl,hp0⟩ ?_
 clear hp0
 rintro ⟨i,O⟩ e0 w ⟨hi,hO,hp⟩
 dsimp only at hi hO hp ⊢
 have hOl:O.l.length≤i:=by
  have h1:=congrArg List.length hO
  have h2:=List.length_filterMap_le (subO x.ht x.cfg.stp) ((x.jobs.l.take i).map Job.p)
  unfold subsP at h1
  rw [List.length_map] at h1
  rw [List.length_map,List.length_take] at h2
  omega
 rcases Nat.lt_or_ge i x.jobs.l.length with hlt|hge
 ·have hyy:=List.getElem?_eq_getElem hlt
  obtain ⟨h1,h2⟩:=half_set (f:=sentB x.ht x.cfg.stp) hyy
  generalize x.jobs.l[i]=y at hyy h1 h2
  have hym:=List.mem_of_getElem? hyy
  have hyf:=hf.pay y hym
  have hya:=hs.pay y hym
  have hnx:=subs_next (ht:=x.ht) (step:=x.cfg.stp) hyy
  have hll:((x.jobs.l.take i).map (sentB x.ht x.cfg.stp)++x.jobs.l.drop i).length=x.jobs.l.length:=by simp;omega
  obtain ⟨b,o,z,hA,hbb,hrow,hzz⟩:=(hp.row (j:=0) rfl).has (i:=i) (by show i < ((x.jobs.l.take i).map (sentB x.ht x.cfg.stp)++x.jobs.l.drop i).length;omega)
  have hA':A2=some ⟨b,o,none⟩:=hA
  clear hrow hA
  cases hd:dueP y.p x.ht x.cfg.stp with
  |none=>
   rw [subO_none hd,Option.toList_none,List.append_nil] at hnx
   have hsb:sentB x.ht x.cfg.stp y=y:=by unfold sentB;rw [dueN_p,hd]
   rw [hsb,set_sameR h2] at h1
   have hdn:=fun {w:World} (hc:Chg N0 w0 w)=>(dueRef_any (hya.keep hc hB) hyf x.ht x.cfg.stp hst).mono fun _ _ hh=>duePost_no hh hd
   ((conv=>whnf);repeat' ((first|((with_reducible refine br_id ?_);((with_reducible refine br_dec (fun hx=>?_) (fun hx=>?_))<;>(try (exfalso;first|omega|contradiction))))|((with_reducible refine gen_id ?_);(apply gen_len;exact rfl;exact rfl;assumption)))<;>(conv=>whnf)))
   refine dr_cut (fun e w=>∃(b7:Nat) (e0:Nat→Value),e=eat [(1,ptr b1),(2,ptr b2),(4,O.v),(5, .slice A2 x.jobs.l.length c2),(6,i64 i),(7,ptr b7),(8, .bool false)] ⟨e0, []⟩∧Hp N0 w0 w (rowR 49 38 Job.c ⟨A2,c2,(x.jobs.l.take i).map (sentB x.ht x.cfg.stp)++x.jobs.l.drop i⟩::cel b2 31 (Sta.c Sta.z).toArray::cel b1 31 x.c.toArray::subRs O)) ?_ ?_
   ·refine dr_autos [] 1000 tabOk (by kernel_rfl) (by decide+kernel) ?_
    replace hp:=hp.drew
    ((conv=>whnf);repeat' ((first|((with_reducible refine cn_id ?_);first|(refine cn rfl ?_)|(refine cn ‹_› ?_))|((with_reducible refine ld_id ?_);(apply ld_hs hp;(focus repeat' constructor);exact rfl))|((with_reducible refine ldn_id ?_);((refine ldn_ownx hp 0 rfl hA' i rfl h2 rfl ?_)))|((with_reducible refine al_id ?_);(refine al_cel hp ?_;clear hp;intro bb w hp))|((with_reducible refine st_id ?_);(apply sta_hs hp;(focus repeat' constructor);exact rfl;exact rfl;clear hp;intro w hp;(try dsimp only [List.set] at hp)))|((with_reducible refine fk_id ?_);(refine fk_mk ?_ ?_))|((with_reducible refine cl_id ?_);((refine cl_eq ((hdn hp.chg)) rfl rfl ?_;rintro e w ⟨rfl,hcc⟩;replace hp:=hp.call0 hcc;refine ⟨_,rfl,?_⟩)))|((with_reducible refine rd_id ?_);((refine rd_ixs rfl rfl hA' rfl rfl (by omega) ?_))))<;>(conv=>whnf)))
    all_goals exact ⟨_,_,eat_holds (by (repeat' (first|exact trivial|(refine ⟨rfl,?_⟩)))),hp.tail⟩
   clear hp
   rintro e w ⟨b7,e0,rfl,hp⟩
   ((conv=>whnf);repeat' ((first|((with_reducible refine br_id ?_);(with_reducible refine br_f ?_))|((with_reducible refine ar_id ?_);(refine ar_i64 (by omega) ?_)))<;>(conv=>whnf)))
   exact lp_next (i+1,O) (by show x.jobs.l.length - (i+1) < x.jobs.l.length - i;omega) (by (repeat' (first|exact trivial|(refine ⟨rfl,?_⟩)))) ⟨by show i+1≤_;omega,by show O.l.map Sub.p=subsP x.ht x.cfg.stp ((x.jobs.l.take (i+1)).map Job.p);rw [hnx];exact hO,by show Hp N0 w0 w (rowR 49 38 Job.c ⟨A2,c2,(x.jobs.l.take (i+1)).map (sentB x.ht x.cfg.stp)++x.jobs.l.drop (i+1)⟩::_);rw [←h1];exact hp⟩
  |some n=>
   have hdy:=fun {w:World} (hc:Chg N0 w0 w)=>(dueRef_any (hya.keep hc hB) hyf x.ht x.cfg.stp hst).mono fun _ _ hh=>duePost_yes hh hd
   ((conv=>whnf);repeat' ((first|((with_reducible refine br_id ?_);((with_reducible refine br_dec (fun hx=>?_) (fun hx=>?_))<;>(try (exfalso;first|omega|contradiction))))|((with_reducible refine gen_id ?_);(apply gen_len;exact rfl;exact rfl;assumption)))<;>(conv=>whnf)))
   refine dr_cut (fun e w=>∃(z:Sub) (b7:Nat) (e0:Nat→Value),subO x.ht x.cfg.stp y.p=some z.p∧z.tier=n∧e=eat [(1,ptr b1),(2,ptr b2),(4,O.v),(5, .slice A2 x.jobs.l.length c2),(6,i64 i),(7,ptr b7),(8, .bool true)] ⟨e0, []⟩∧Hp N0 w0 w (stxR z::cel b7 69 z.c.toArray::rowR 49 38 Job.c ⟨A2,c2,(x.jobs.l.take i).map (sentB x.ht x.cfg.stp)++x.jobs.l.drop i⟩::cel b2 31 (Sta.c Sta.z).toArray::cel b1 31 x.c.toArray::subRs O)) ?_ ?_
   ·refine dr_autos [] 1000 tabOk (by kernel_rfl) (by decide+kernel) ?_
    replace hp:=hp.drew
    ((conv=>whnf);repeat' ((first|((with_reducible refine cn_id ?_);first|(refine cn rfl ?_)|(refine cn ‹_› ?_))|((with_reducible refine ld_id ?_);(apply ld_hs hp;(focus repeat' constructor);exact rfl))|((with_reducible refine ldn_id ?_);((refine ldn_ownx hp 0 rfl hA' i rfl h2 rfl ?_)))|((with_reducible refine al_id ?_);(refine al_cel hp ?_;clear hp;intro bb w hp))|((with_reducible refine st_id ?_);(apply sta_hs hp;(focus repeat' constructor);exact rfl;exact rfl;clear hp;intro w hp;(try dsimp only [List.set] at hp)))|((with_reducible refine fk_id ?_);(refine fk_mk ?_ ?_))|((with_reducible refine cl_id ?_);((refine cl_eq (hdy hp.chg) rfl rfl ?_;rintro e w ⟨z,hz,hzt,rfl,hm⟩;replace hp:=hp.add hm;replace hm:=hm.chg;refine ⟨_,rfl,?_⟩)))|((with_reducible refine rd_id ?_);((refine rd_ixs rfl rfl hA' rfl rfl (by omega) ?_))))<;>(conv=>whnf)))
    all_goals first
     |exact ⟨z,_,_,hz,hzt,eat_holds (by (repeat' (first|exact trivial|(refine ⟨rfl,?_⟩)))),hp⟩
     |exact ⟨z,_,_,hz,hzt,eat_holds (by (repeat' (first|exact trivial|(refine ⟨rfl,?_⟩)))),hp.perm (.swap ..)⟩
   clear hp
   rintro e w ⟨z,b7,e0,hso,hzt,rfl,hp⟩
   rw [hso] at hnx
   have hsb:sentB x.ht x.cfg.stp y={y with live:=z.tier}:=by unfold sentB;rw [dueN_p,hd,hzt]
   rw [hsb] at h1
   ((conv=>whnf);repeat' ((first|((with_reducible refine br_id ?_);(with_reducible refine br_t ?_))|((with_reducible refine ar_id ?_);(refine ar_i64 (by omega) ?_))|((with_reducible refine cn_id ?_);(refine cn rfl ?_))|((with_reducible refine ld_id ?_);(apply ld_hs hp;(focus repeat' constructor);exact rfl))|((with_reducible refine ldn_id ?_);(apply lda_hs hp;(focus repeat' constructor);exact rfl))|((with_reducible refine st_id ?_);((refine st_own hp 3 rfl hA' i 36 rfl h2 {y with live:=z.tier} rfl (by simp) rfl ?_);clear hp;intro w hp;dsimp only [List.set] at hp))|((with_reducible refine gen_id ?_);first|((refine gen_bs rfl hp el_sub Sub.c [z] [Sub.v z] rfl rfl rfl (fun _ hh=>by simp at hh;subst hh;rfl) (by omega) ?_);clear hp;intro br w hp)|((refine gen_app (s:=O) rfl hp 6 rfl el_sub rfl ⟨some ⟨br,0,none⟩,1, [z]⟩ rfl (hp.row (j:=0) rfl) (fun _ _=>rfl) sub_one (by simp only [List.length_cons,List.length_nil];omega) (by simp only [maxLen,List.length_cons,List.length_nil];omega) ?_);clear hp;intro A3 c3 w hp;dsimp only [List.set] at hp)|((refine gen_ixs rfl rfl hA' rfl rfl (by omega) ?_))))<;>(conv=>whnf)))
   rw [h1] at hp
   refine lp_next (i+1,⟨A3,c3,O.l++ [z]⟩) (by show x.jobs.l.length - (i+1) < x.jobs.l.length - i;omega) (by (repeat' (first|exact trivial|(refine ⟨rfl,?_⟩)))) ⟨by show i+1≤_;omega,?_,?_⟩
   ·show (O.l++ [z]).map Sub.p=_
    rw [hnx,List.map_append,hO]
    rfl
   ·have h5:=hp.tail.sub (rs':=stxR z::_::_::_::_::O.l.map stxR) (.cons_cons _ (.cons _ (.refl _)))
    have h6:=h5.perm (List.perm_append_singleton _ _).symm
    show Hp N0 w0 w (_::_::_::_::(O.l++ [z]).map stxR)
    rw [List.map_append]
    exact h6
 ·have hJ:(x.jobs.l.take i).map (sentB x.ht x.cfg.stp)++x.jobs.l.drop i=x.jobs.l.map (sentB x.ht x.cfg.stp):=by rw [List.take_of_length_le hge,List.drop_of_length_le hge,List.append_nil]
  rw [hJ] at hp
  rw [List.take_of_length_le hge] at hO
  have hll:(x.jobs.l.map (sentB x.ht x.cfg.stp)).length=x.jobs.l.length:=by simp
  ((conv=>whnf);repeat' ((first|((with_reducible refine br_id ?_);((with_reducible refine br_dec (fun hx=>?_) (fun hx=>?_))<;>(try (exfalso;first|omega|contradiction))))|((with_reducible refine cn_id ?_);(refine cn rfl ?_))|((with_reducible refine ldn_id ?_);(apply lda_hs hp;(focus repeat' constructor);exact rfl))|((with_reducible refine st_id ?_);first|(apply sta_hs hp;(focus repeat' constructor);exact rfl;exact rfl;clear hp;intro w hp;(try dsimp only [List.set] at hp))|(apply st_hs hp;(focus repeat' constructor);exact rfl;exact rfl;clear hp;intro w hp;(try dsimp only [List.set] at hp)))|((with_reducible refine gen_id ?_);(apply gen_len;exact rfl;exact rfl;assumption)))<;>(conv=>whnf)))
  refine ps_val (v':= .tuple #[Sta.v {x with jobs:=⟨A2,c2,x.jobs.l.map (sentB x.ht x.cfg.stp)⟩},O.v]) ?_ ⟨⟨A2,c2,x.jobs.l.map (sentB x.ht x.cfg.stp)⟩,O,rfl,hO,rfl,?_⟩
  ·unfold Sta.v Sl.v
   rw [hll]
   rfl
  ·have h1:=hp.sub (rs':=rowR 49 38 Job.c ⟨A2,c2,x.jobs.l.map (sentB x.ht x.cfg.stp)⟩::subRs O) (.cons_cons _ (.cons _ (.cons _ (.refl _))))
   have h2:=(h1.perm (List.perm_append_singleton _ (subRs O)).symm).fold (subRs O).length
   rw [List.take_left,List.drop_left] at h2
   exact (h2.perm (.swap ..)).made (.refl _)
end Go.Proofs.YteabebmlclgakaaGreat
/- Shelf4: shelf.Get, Of, Len, Bytes. -/
namespace Go.Proofs.YteabebmlclgakaaGreat
open Go.RowKit
set_option maxRecDepth 100000
set_option maxHeartbeats 2000000
end Go.Proofs.YteabebmlclgakaaGreat
/- Shelf5: shelf.Hinted. -/
namespace Go.Proofs.YteabebmlclgakaaGreat
open Go.RowKit
set_option maxRecDepth 100000
set_option maxHeartbeats 2000000
end Go.Proofs.YteabebmlclgakaaGreat
/- Shelf6: shelf.Drop, DropAll. -/
namespace Go.Proofs.YteabebmlclgakaaGreat
open Go.RowKit
set_option maxRecDepth 100000
set_option maxHeartbeats 2000000
end Go.Proofs.YteabebmlclgakaaGreat
/- Shelf7: shelf.DropAll; the law's example. -/
namespace Go.Proofs.YteabebmlclgakaaGreat
open Go.RowKit
set_option maxRecDepth 100000
set_option maxHeartbeats 2000000
end Go.Proofs.YteabebmlclgakaaGreat
/- Shelf8: what the law ShelfFound asks: holder, Bytes, counts. -/
namespace Go.Proofs.YteabebmlclgakaaGreat
open Go.RowKit
set_option maxRecDepth 100000
set_option maxHeartbeats 2000000
theorem key_ne {x k:Key} (h:¬x=k):¬((x.ses.toNat:Int)=k.ses.toNat∧(x.seq.toNat:Int)=k.seq.toNat):=fun ⟨h1,h2⟩=>h (by
 obtain ⟨a,b⟩:=x
 obtain ⟨e,f⟩:=k
 have h3:a=e:=UInt32.toNat_inj.1 (Int.ofNat.inj h1)
 have h4:b=f:=UInt32.toNat_inj.1 (Int.ofNat.inj h2)
 rw [h3,h4])
end Go.Proofs.YteabebmlclgakaaGreat
/- Ref25: the document's shelf: lists of blobs. -/
namespace Go.Proofs.YteabebmlclgakaaGreat
open Go.RowKit
set_option maxRecDepth 100000
set_option maxHeartbeats 2000000
def fndK (L:List Blob) (k:Key):Option Nat:=L.findIdx? fun x=>decide (x.key=k)
def fndV (L:List Blob) (k:Key):Int:=match fndK L k with|some i=>i|none=> -1
theorem fndK_some {L:List Blob} {k:Key} {i:Nat} {x:Blob} (hi:L[i]? =some x) (hx:x.key=k) (h:∀(j:Nat) (y:Blob),j < i→L[j]? =some y→y.key≠k):fndK L k=some i:=by
 unfold fndK
 obtain ⟨h1,h2⟩:=List.getElem?_eq_some_iff.1 hi
 rw [List.findIdx?_eq_some_iff_getElem]
 refine ⟨h1,by rw [h2];simpa using hx,fun j hj=>?_⟩
 simpa using h j L[j] hj (List.getElem?_eq_getElem (by omega))
theorem fndK_none {L:List Blob} {k:Key} (h:∀(j:Nat) (y:Blob),L[j]? =some y→y.key≠k):fndK L k=none:=by
 unfold fndK
 rw [List.findIdx?_eq_none_iff]
 intro x hx
 obtain ⟨j,hj⟩:=List.getElem?_of_mem hx
 simpa using h j x hj
theorem fnd_mem (L:List Blob) (k:Key):(fndK L k).isSome=decide (k∈(L.map (·.p)).map (·.key)):=by
 unfold fndK
 rw [List.findIdx?_isSome,List.map_map,Bool.eq_iff_iff]
 simp only [List.any_eq_true,decide_eq_true_eq,List.mem_map]
 exact Iff.rfl
theorem rfind25_any {B:Nat} {w0:World} {l:Sl Blob} (h:SlAt B w0 Blob.c 19 l) (k:Key):Calls Tryz.prog 99 #[l.v,k.v] w0 fun e w'=>e= .returned (i64 (fndV l.l k))∧Chg N0 w0 w':=by
 have hp:=Hp.start (S:=N0) w0
 have hB:∀b,N0 b→B≤b:=fun _ hh=>hh.elim
 have us:=Tryz.underlying28
 have hmax:l.l.length≤9223372036854775807:=by have:=h.le;have:=h.max;simp only [maxLen] at this;omega
 refine calls_x (args:= [_,_]) tabOk Tryz.func99 Tryz.ntmps99 Tryz.results99 rfl (Nat.le_of_ble_eq_true rfl) ?_
 ((conv=>whnf);repeat' (((with_reducible refine al_id ?_);(refine al_cel hp ?_;clear hp;intro bb w hp))<;>(conv=>whnf)))
 obtain ⟨b3,hb3⟩:∃b3,b3=bb:=⟨_,rfl⟩
 subst hb3
 refine lp_inv (α:=Nat) (fun i=> [(0,l.v),(3,ptr b3),(5,i64 i)]) (fun i w=>i≤l.l.length∧(∀(j:Nat) (y:Blob),j < i→l.l[j]? =some y→y.key≠k)∧Hp N0 w0 w [cel b3 42 k.c.toArray]) (fun i=>l.l.length - i) 0 (by (repeat' (first|exact trivial|(refine ⟨rfl,?_⟩)))) ⟨by omega,fun j _ hj=>by omega,hp⟩ ?_
 clear hp
 rintro i e0 w ⟨hi,hno,hp⟩
 dsimp only at hi hno hp ⊢
 rcases Nat.lt_or_ge i l.l.length with hlt|hge
 ·obtain ⟨b1,o1,x,hA,hb1,hrow,hxx⟩:=h.has hlt
  by_cases hxk:x.key=k
  ·subst hxk
   ((conv=>whnf);repeat' ((first|((with_reducible refine br_id ?_);first|(with_reducible refine br_t ?_)|((with_reducible refine br_dec (fun hx=>?_) (fun hx=>?_))<;>(try (exfalso;first|omega|contradiction)))|((with_reducible refine br_eq (fun hx=>?_) (fun hx=>?_))<;>(try (exfalso;first|omega|contradiction))))|((with_reducible refine ld_id ?_);first|((refine ld_row hp hB ‹_› ‹_› _ _ rfl ‹_› (by rfl) ?_))|(apply ld_hs hp;(focus repeat' constructor);exact rfl))|((with_reducible refine gen_id ?_);(apply gen_len;exact rfl;exact rfl;assumption))|((with_reducible refine dr_id ?_);(refine dr_auto tabOk (by kernel_rfl) (by decide+kernel) ?_;(try replace hp:=hp.drew)))|((with_reducible refine rd_id ?_);((refine rd_ixs rfl rfl ‹_› rfl rfl (by omega) ?_))))<;>(conv=>whnf)))
   all_goals first
    |exact absurd rfl hx
    |exact ps_val (v':=i64 i) rfl ⟨by unfold fndV;rw [fndK_some hxx rfl hno],hp.chg⟩
  ·have hne:=key_ne hxk
   ((conv=>whnf);repeat' ((first|((with_reducible refine br_id ?_);first|(with_reducible refine br_t ?_)|(with_reducible refine br_f ?_)|((with_reducible refine br_dec (fun hx=>?_) (fun hx=>?_))<;>(try (exfalso;first|omega|contradiction)))|((with_reducible refine br_eq (fun hx=>?_) (fun hx=>?_))<;>(try (exfalso;first|omega|contradiction))))|((with_reducible refine ar_id ?_);(refine ar_i64 (by omega) ?_))|((with_reducible refine ld_id ?_);first|((refine ld_row hp hB ‹_› ‹_› _ _ rfl ‹_› (by rfl) ?_))|(apply ld_hs hp;(focus repeat' constructor);exact rfl))|((with_reducible refine gen_id ?_);(apply gen_len;exact rfl;exact rfl;assumption))|((with_reducible refine dr_id ?_);(refine dr_auto tabOk (by kernel_rfl) (by decide+kernel) ?_;(try replace hp:=hp.drew)))|((with_reducible refine rd_id ?_);((refine rd_ixs rfl rfl ‹_› rfl rfl (by omega) ?_))))<;>(conv=>whnf)))
   all_goals exact lp_next (i+1) (by show l.l.length - (i+1) < l.l.length - i;omega) (by (repeat' (first|exact trivial|(refine ⟨rfl,?_⟩)))) ⟨by show i+1≤_;omega,fun j y hj hy=>by
    rcases Nat.lt_or_ge j i with h1|h1
    ·exact hno j y h1 hy
    ·have:j=i:=by have:j < i+1:=hj;omega
     subst this
     rw [hxx] at hy
     cases hy
     exact hxk,hp⟩
 ·((conv=>whnf);repeat' ((first|((with_reducible refine br_id ?_);((with_reducible refine br_dec (fun hx=>?_) (fun hx=>?_))<;>(try (exfalso;first|omega|contradiction))))|((with_reducible refine gen_id ?_);(apply gen_len;exact rfl;exact rfl;assumption)))<;>(conv=>whnf)))
  exact ps_val (v':=i64 (-1)) rfl ⟨by unfold fndV;rw [fndK_none fun j y hy=>hno j y (by have:=(List.getElem?_eq_some_iff.1 hy).1;omega) hy],hp.chg⟩
end Go.Proofs.YteabebmlclgakaaGreat
/- PayR: whether a payload may be, by the document. No condition. -/
namespace Go.Proofs.YteabebmlclgakaaGreat
open Go.RowKit
set_option maxRecDepth 100000
set_option maxHeartbeats 2000000
theorem rright_any {B:Nat} {w0:World} {p:Payload} (h:PayAt B w0 p):Calls Tryz.prog 181 #[p.pv] w0 fun e w'=>e= .returned (.bool (rightP p))∧Chg N0 w0 w':=by
 have hp:=Hp.start (S:=N0) w0
 have hB:∀b,N0 b→B≤b:=fun _ hh=>hh.elim
 have u1:=Tryz.underlying45
 have u2:=Tryz.underlying38
 have hmax:p.l.length≤9223372036854775807:=by have:=h.row.le;have:=h.row.max;simp only [maxLen] at this;omega
 refine calls_x (args:= [_]) tabOk Tryz.func181 Tryz.ntmps181 Tryz.results181 rfl (Nat.le_of_ble_eq_true rfl) ?_
 ((conv=>whnf);repeat' (((with_reducible refine al_id ?_);(refine al_cel hp ?_;clear hp;intro bb w hp))<;>(conv=>whnf)))
 obtain ⟨b1,hb1⟩:∃b,b=bb:=⟨_,rfl⟩
 subst hb1
 refine lp_inv (α:=Nat) (fun i=> [(1,ptr b1),(3,i64 i)]) (fun i w=>i≤p.l.length∧(∀j,j < i→tierOk p.l j=true)∧Hp N0 w0 w [cel b1 47 #[p.v]]) (fun i=>p.l.length - i) 0 (by (repeat' (first|exact trivial|(refine ⟨rfl,?_⟩)))) ⟨by omega,fun j hj=>by omega,hp⟩ ?_
 clear hp
 rintro i e0 w ⟨hi,hall,hp⟩
 rcases Nat.lt_or_ge i p.l.length with hlt|hge
 ·obtain ⟨b,o,x,hA,hb,hrow,hxx⟩:=h.row.has hlt
  have hmem:=List.mem_of_getElem? hxx
  have hxm:x.tx.l.length≤9223372036854775807:=by have:=(h.tx x hmem).le;have:=(h.tx x hmem).max;simp only [maxLen] at this;omega
  have next:tierOk p.l i=true→∀j,j < i+1→tierOk p.l j=true:=fun ht j hj=>by
   rcases Nat.lt_or_ge j i with h1|h1
   ·exact hall j h1
   ·obtain rfl:j=i:=by omega
    exact ht
  cases i with
  |zero=>
   ((conv=>whnf);repeat' ((first|((with_reducible refine br_id ?_);first|(with_reducible refine br_t ?_)|(with_reducible refine br_f ?_)|((with_reducible refine br_dec (fun hx=>?_) (fun hx=>?_))<;>(try (exfalso;first|omega|contradiction))))|((with_reducible refine ar_id ?_);(refine ar_i64 (by omega) ?_))|((with_reducible refine ld_id ?_);first|((refine ld_row hp hB ‹_› ‹_› _ _ rfl ‹_› (by rfl) ?_))|(apply ld_hs hp;(focus repeat' constructor);exact rfl))|((with_reducible refine gen_id ?_);first|((refine gen_ixs rfl rfl ‹_› rfl rfl (by omega) ?_))|(apply gen_len;exact rfl;exact rfl;assumption))|((with_reducible refine dr_id ?_);(refine dr_auto tabOk (by kernel_rfl) (by decide+kernel) ?_;(try replace hp:=hp.drew))))<;>(conv=>whnf)))
   all_goals first
    |(refine ps_val (v':= .bool false) rfl ⟨?_,hp.chg⟩
      rw [rightP_no hlt (by rw [tierOk_zero hxx,decide_eq_false (by omega)])])
    |exact lp_next 1 (by omega) (by (repeat' (first|exact trivial|(refine ⟨rfl,?_⟩)))) ⟨by omega,next (by rw [tierOk_zero hxx,decide_eq_true (by omega)]),hp⟩
  |succ k=>
   obtain ⟨y,hy⟩:∃y,p.l[k]? =some y:=⟨_,List.getElem?_eq_getElem (by omega)⟩
   ((conv=>whnf);repeat' ((first|((with_reducible refine br_id ?_);first|(with_reducible refine br_t ?_)|(with_reducible refine br_f ?_)|((with_reducible refine br_dec (fun hx=>?_) (fun hx=>?_))<;>(try (exfalso;first|omega|contradiction))))|((with_reducible refine ar_id ?_);first|((refine ar_n (k) (by omega) (by omega) ?_))|(refine ar_i64 (by omega) ?_))|((with_reducible refine ld_id ?_);first|((refine ld_row hp hB ‹_› ‹_› _ _ rfl ‹_› (by rfl) ?_))|(apply ld_hs hp;(focus repeat' constructor);exact rfl))|((with_reducible refine gen_id ?_);first|((refine gen_ixs rfl rfl ‹_› rfl rfl (by omega) ?_))|(apply gen_len;exact rfl;exact rfl;assumption))|((with_reducible refine dr_id ?_);(refine dr_auto tabOk (by kernel_rfl) (by decide+kernel) ?_;(try replace hp:=hp.drew)))|((with_reducible refine rd_id ?_);((refine rd_ixs rfl rfl ‹_› rfl rfl (by omega) ?_))))<;>(conv=>whnf)))
   all_goals first
    |(refine ps_val (v':= .bool false) rfl ⟨?_,hp.chg⟩
      rw [rightP_no hlt (by rw [tierOk_succ hxx hy,decide_eq_false (by omega),Bool.false_and])])
    |(refine ps_val (v':= .bool false) rfl ⟨?_,hp.chg⟩
      rw [rightP_no hlt (by rw [tierOk_succ hxx hy,decide_eq_false (p:=y.fee.toNat < x.fee.toNat) (by omega),Bool.and_false])])
    |exact lp_next (k+1+1) (by omega) (by (repeat' (first|exact trivial|(refine ⟨rfl,?_⟩)))) ⟨by omega,next (by rw [tierOk_succ hxx hy,decide_eq_true (by omega),decide_eq_true (p:=y.fee.toNat < x.fee.toNat) (by omega)];rfl),hp⟩
 ·have hall2:(List.range p.l.length).all (tierOk p.l)=true:=by
   rw [List.all_eq_true]
   intro j hj
   exact hall j (by have:=List.mem_range.1 hj;omega)
  have hR:rightP p=decide (1≤p.l.length∧p.l.length≤8):=by unfold rightP;rw [hall2,Bool.and_true]
  rw [hR]
  by_cases h18:1≤p.l.length∧p.l.length≤8
  ·rw [decide_eq_true h18]
   ((conv=>whnf);repeat' ((first|((with_reducible refine br_id ?_);first|(with_reducible refine br_t ?_)|((with_reducible refine br_dec (fun hx=>?_) (fun hx=>?_))<;>(try (exfalso;first|omega|contradiction))))|((with_reducible refine ld_id ?_);(apply ld_hs hp;(focus repeat' constructor);exact rfl))|((with_reducible refine gen_id ?_);(apply gen_len;exact rfl;exact rfl;assumption)))<;>(conv=>whnf)))
   exact ps_val (v':= .bool true) (by show Value.bool (decide ((p.l.length:Int)≤8))=_;rw [decide_eq_true (by omega)]) ⟨rfl,hp.chg⟩
  ·rw [decide_eq_false h18]
   ((conv=>whnf);repeat' ((first|((with_reducible refine br_id ?_);first|(with_reducible refine br_t ?_)|(with_reducible refine br_f ?_)|((with_reducible refine br_dec (fun hx=>?_) (fun hx=>?_))<;>(try (exfalso;first|omega|contradiction))))|((with_reducible refine ld_id ?_);(apply ld_hs hp;(focus repeat' constructor);exact rfl))|((with_reducible refine gen_id ?_);(apply gen_len;exact rfl;exact rfl;assumption)))<;>(conv=>whnf)))
   all_goals first
    |exact ps_val (v':= .bool false) rfl ⟨rfl,hp.chg⟩
    |exact ps_val (v':= .bool false) (by show Value.bool (decide ((p.l.length:Int)≤8))=_;rw [decide_eq_false (by omega)]) ⟨rfl,hp.chg⟩
end Go.Proofs.YteabebmlclgakaaGreat
/- Block (3): the document's answers about blocks: whether one may be, whether two are the same. -/
namespace Go.Proofs.YteabebmlclgakaaGreat
open Go.RowKit
set_option maxRecDepth 100000
set_option maxHeartbeats 2000000
theorem rightRef_any {B:Nat} {w0:World} {b:Blk} (h:SlAt B w0 Id.c 32 b.tx):Calls Tryz.prog 96 #[b.v] w0 fun e w'=>e= .returned (.bool (rightB b))∧Chg N0 w0 w':=by
 have hp:=Hp.start (S:=N0) w0
 have hB:∀b,N0 b→B≤b:=fun _ hh=>hh.elim
 have hmax:b.tx.l.length≤9223372036854775807:=by have:=h.le;have:=h.max;simp only [maxLen] at this;omega
 have u1:=Tryz.underlying52
 refine calls_x (args:= [_]) tabOk Tryz.func96 Tryz.ntmps96 Tryz.results96 rfl (Nat.le_of_ble_eq_true rfl) ?_
 ((conv=>whnf);repeat' (((with_reducible refine al_id ?_);(refine al_cel hp ?_;clear hp;intro bb w hp))<;>(conv=>whnf)))
 refine lp_inv (α:=Nat) (fun a=> [(1,ptr bb),(3,errno a)]) (fun a w=>a≤b.tx.l.length∧(b.tx.l.take a).Nodup∧Hp N0 w0 w [cel bb 54 b.c.toArray]) (fun a=>b.tx.l.length - a) 0 (by (repeat' (first|exact trivial|(refine ⟨rfl,?_⟩)))) ⟨by omega,by simp,hp⟩ ?_
 clear hp
 rintro i e0 w ⟨hi,hnd,hp⟩
 dsimp only at hi hnd hp ⊢
 rcases Nat.lt_or_ge i b.tx.l.length with hlt|hge
 ·obtain ⟨b1,o,x,hA,hb1,hrow,hxx⟩:=h.has hlt
  have htk:b.tx.l.take (i+1)=b.tx.l.take i++ [x]:=by rw [List.take_add_one,hxx];rfl
  ((conv=>whnf);repeat' ((first|((with_reducible refine br_id ?_);((with_reducible refine br_dec (fun hx=>?_) (fun hx=>?_))<;>(try (exfalso;first|omega|contradiction))))|((with_reducible refine ld_id ?_);(apply ld_hs hp;(focus repeat' constructor);exact rfl))|((with_reducible refine gen_id ?_);(apply gen_len;exact rfl;exact rfl;assumption)))<;>(conv=>whnf)))
  refine lp_inv (α:=Nat) (fun a=> [(1,ptr bb),(3,errno i),(4,errno a)]) (fun a w=>a≤i∧(∀y∈b.tx.l.take a,y≠x)∧Hp N0 w0 w [cel bb 54 b.c.toArray]) (fun a=>i - a) 0 (by (repeat' (first|exact trivial|(refine ⟨rfl,?_⟩)))) ⟨by omega,by simp,hp⟩ ?_
  clear hp
  rintro k e1 w ⟨hk,hne,hp⟩
  dsimp only at hk hne hp ⊢
  rcases Nat.lt_or_ge k i with hlt2|hge2
  ·have hyy:b.tx.l[k]? =some b.tx.l[k]:=List.getElem?_eq_getElem (by omega)
   generalize b.tx.l[k]=y at hyy
   ((conv=>whnf);repeat' ((first|((with_reducible refine br_id ?_);first|((with_reducible refine br_dec (fun hx=>?_) (fun hx=>?_))<;>(try (exfalso;first|omega|contradiction)))|((with_reducible refine br_s (fun hx=>?_) (fun hx=>?_))<;>(try (exfalso;first|omega|contradiction))))|((with_reducible refine ar_id ?_);(refine ar_i64 (by omega) ?_))|((with_reducible refine ld_id ?_);(apply ld_hs hp;(focus repeat' constructor);exact rfl))|((with_reducible refine ldn_id ?_);((refine ldn_rowx hp hB ‹_› ‹_› _ rfl ‹_› rfl ?_)))|((with_reducible refine dr_id ?_);(refine dr_auto tabOk (by kernel_rfl) (by decide+kernel) ?_;(try replace hp:=hp.drew)))|((with_reducible refine rd_id ?_);first|((refine rd_ixs rfl rfl ‹_› rfl rfl (by omega) ?_))|((refine rd_eqa rfl rfl rfl (eq_id y x) (by kernel_rfl) (.inl rfl) ?_))))<;>(conv=>whnf)))
   ·refine ps_val (v':= .bool false) rfl ⟨?_,hp.chg⟩
    have hyx:y=x:=by simpa using hx
    have h1:rightB b=false:=by
     unfold rightB
     have:x∈b.tx.l.take i:=by
      rw [←hyx]
      refine List.mem_of_getElem? (i:=k) ?_
      rw [List.getElem?_take_of_lt hlt2,hyy]
     rw [decide_eq_false (dup_of hxx this),Bool.and_false]
    rw [h1]
   ·refine lp_next (k+1) ?_ (by (repeat' (first|exact trivial|(refine ⟨rfl,?_⟩)))) ⟨by omega,?_,hp⟩
    ·show i - (k+1) < i - k;omega
    ·intro z hz
     rw [List.take_add_one,hyy] at hz
     rcases List.mem_append.1 hz with hz|hz
     ·exact hne z hz
     ·simp at hz
      subst hz
      simpa using hx
  ·((conv=>whnf);repeat' ((first|((with_reducible refine br_id ?_);((with_reducible refine br_dec (fun hx=>?_) (fun hx=>?_))<;>(try (exfalso;first|omega|contradiction))))|((with_reducible refine ar_id ?_);(refine ar_i64 (by omega) ?_)))<;>(conv=>whnf)))
   obtain rfl:k=i:=by omega
   refine lp_next (k+1) ?_ (by (repeat' (first|exact trivial|(refine ⟨rfl,?_⟩)))) ⟨by omega,?_,hp⟩
   ·show b.tx.l.length - (k+1) < b.tx.l.length - k;omega
   ·rw [htk]
    exact nodup_next hnd fun hh=>hne x hh rfl
 ·rw [List.take_of_length_le hge] at hnd
  ((conv=>whnf);repeat' ((first|((with_reducible refine br_id ?_);first|(with_reducible refine br_t ?_)|(with_reducible refine br_f ?_)|((with_reducible refine br_dec (fun hx=>?_) (fun hx=>?_))<;>(try (exfalso;first|omega|contradiction))))|((with_reducible refine ld_id ?_);(apply ld_hs hp;(focus repeat' constructor);exact rfl))|((with_reducible refine ldn_id ?_);(apply ldn_hs hp;(focus repeat' constructor);exact rfl;exact rfl))|((with_reducible refine gen_id ?_);first|((refine gen_eqa rfl rfl rfl (eq_id b.hash b.parent) (by kernel_rfl) (.inr rfl) ?_))|(apply gen_len;exact rfl;exact rfl;assumption)))<;>(conv=>whnf)))
  ·refine ps_val (v':= .bool (!decide (b.hash=b.parent))) rfl ⟨?_,hp.chg⟩
   have h1:rightB b=(!decide (b.hash=b.parent)):=by
    unfold rightB
    rw [decide_eq_true hnd,Bool.and_true,decide_eq_true (show b.tx.l.length≤32 by omega),Bool.true_and]
   rw [h1]
  ·refine ps_val (v':= .bool false) rfl ⟨?_,hp.chg⟩
   have h1:rightB b=false:=by
    unfold rightB
    rw [decide_eq_false (show ¬b.tx.l.length≤32 by omega)]
    rfl
   rw [h1]
end Go.Proofs.YteabebmlclgakaaGreat
