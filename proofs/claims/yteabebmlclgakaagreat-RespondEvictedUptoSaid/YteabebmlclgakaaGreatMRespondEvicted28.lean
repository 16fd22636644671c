/- MRespondEvicted28: Send1, Rested, Send2, Send3, Shelf8. -/
import Derived.Test.YteabebmlclgakaaGreatMRespondEvicted27
import Derived.Test.YteabebmlclgakaaGreatMRespondEvicted26
import Derived.Test.YteabebmlclgakaaGreatMRespondEvicted11
import Derived.Test.YteabebmlclgakaaGreatMRespondEvicted18
import Derived.Test.YteabebmlclgakaaGreatMRespondEvicted22
import Derived.Test.YteabebmlclgakaaGreatMRespondEvicted8
import Derived.Test.YteabebmlclgakaaGreatMRespondEvicted9
import Derived.Test.YteabebmlclgakaaGreatMRespondEvictedsTailS
import Derived.Laws.OwnMore
import Derived.Test.YteabebmlclgakaaGreatMRespondEvicted13
set_option linter.unusedSimpArgs false
set_option linter.unusedVariables false
/- Send1: package respond: what is sent out of a book. Of states that are few. -/
namespace Go.Proofs.YteabebmlclgakaaGreat
open Go.RowKit
set_option maxRecDepth 100000
set_option maxHeartbeats 4000000
def keptB (bk:Nat) (X:Bk) (C:Chn) (w:World):Prop:=w.heap[bk]? =some (.cells X.c.toArray 121)∧ChAt w X.bc C
theorem subs_at {ht:UInt32} {step:Int} {J:List Job} {i:Nat} {y:Job} (hy:J[i]? =some y):subsP ht step ((J.take (i+1)).map Job.p)=subsP ht step ((J.take i).map Job.p)++(subO ht step y.p).toList:=by
 unfold subsP
 rw [List.take_add_one,hy,List.map_append,List.filterMap_append]
 congr 1
theorem subs_get {ht:UInt32} {step:Int} {J:List Job} {i:Nat} {y:Job} {s:SubP} (hy:J[i]? =some y) (hs:subO ht step y.p=some s):(subsP ht step (J.map Job.p))[(subsP ht step ((J.take i).map Job.p)).length]? =some s:=by
 have h1:=subs_at (ht:=ht) (step:=step) hy
 rw [hs] at h1
 have h2:subsP ht step (J.map Job.p)=subsP ht step ((J.take (i+1)).map Job.p)++subsP ht step ((J.drop (i+1)).map Job.p):=by
  unfold subsP
  rw [←List.filterMap_append,←List.map_append,List.take_append_drop]
 rw [h2,h1,List.append_assoc,List.getElem?_append_right (Nat.le_refl _),Nat.sub_self]
 rfl
theorem fld_stp (x:Cfg) (w:World):(Instr.field 23 x.v 1).run Tryz.prog w= .ok (i64 x.stp) w:=by kernel_rfl
theorem due_iter {w0:World} {bk b1 m:Nat} {X:Bk} {C:Chn} {ord:Sl Key} {l:List (Key×EntB)} (h1:w0.heap[b1]? =some (.cells #[ptr bk] 57)) (hb:w0.heap[bk]? =some (.cells X.c.toArray 121)) (hj:JtAt w0 X.bj m ord l) (hI:JtI ord.l l) (hmany:l.length≤100000) (hst: -9223372036854775808≤X.cfg.stp∧X.cfg.stp≤9223372036854775807):
  IterG Tryz.prog (fun x=>x=b1) (keptB bk X C) 121 #[ptr b1] (fun s:Sub=> #[s.v]) stxR Sub.p (subsP C.ht X.cfg.stp (l.map fun p=>p.2.job.p)) w0:=by
 refine ⟨fun L R Z r0 hR0 hR hdis hrd hy=>?_⟩
 have hp:=Hp.start1 hR
 have hn1:¬r0.dom b1:=fun hh=>hdis _ hh rfl
 have u1:=Tryz.underlying29
 show Calls _ _ #[.func (.yield L) #[] #[],ptr b1] w0 _
 refine calls_x (args:= [_,_]) tabOk Tryz.func121 Tryz.ntmps121 Tryz.results121 rfl (Nat.le_of_ble_eq_true rfl) ?_
 ((conv=>whnf);repeat' (((with_reducible refine ld_id ?_);((refine ld_of (hp.chg.cell (cell_of_heap h1 rfl) hn1) ?_)))<;>(conv=>whnf)))
 refine cl_eq (bjobs_any hb hj hI hmany) rfl rfl ?_
 rintro e w ⟨J,hJ,rfl,hm⟩
 replace hp:=hp.add hm
 clear hm
 refine ⟨_,rfl,?_⟩
 rw [←hJ] at hy ⊢
 have hJl:J.l.length=l.length:=by have:=congrArg List.length hJ;rwa [List.length_map,List.length_map] at this
 have hJf:∀y∈J.l,fewP y.pay=true:=fun y hym=>by
  have h2:y.p∈l.map (fun p=>p.2.job.p):=hJ▸List.mem_map_of_mem hym
  obtain ⟨p,hpm,hpe⟩:=List.mem_map.1 h2
  have h3:p.2.job.pay.l.map tk=y.pay.l.map tk:=congrArg JobP.tiers hpe
  have h4:rightP y.pay=true:=by rw [←rightP_congr h3];exact rightJ_pay (hI.right p hpm)
  exact rightP_few h4
 ((conv=>whnf);repeat' (((with_reducible refine gen_id ?_);(apply gen_len;exact rfl;exact rfl;assumption))<;>(conv=>whnf)))
 refine lp_inv (α:=Nat×Res) (fun a=> [(0, .func (.yield L) #[] #[]),(1,ptr b1),(8,J.v),(9,i64 J.l.length),(10,i64 a.1)]) (fun a w=>a.1≤J.l.length∧R (subsP C.ht X.cfg.stp ((J.l.take a.1).map Job.p)).length a.2∧Hp r0.dom w0 w [a.2,star (jobRs J)]) (fun a=>J.l.length - a.1) (0,r0) (by (repeat' (first|exact trivial|(refine ⟨rfl,?_⟩)))) ⟨by omega,hR0,hp.pick [1,0] (by decide) rfl⟩ ?_
 clear hp
 rintro ⟨i,q⟩ e0 w ⟨hi,hq,hp⟩
 dsimp only at hi hq hp ⊢
 rcases Nat.lt_or_ge i J.l.length with hlt|hge
 ·obtain ⟨hrow1,hpay1⟩:=jobRs_at (hp.get (j:=1) rfl)
  obtain ⟨b,o,y,hA,hbb,hrow,hyy⟩:=hrow1.has hlt
  have hym:=List.mem_of_getElem? hyy
  have hya:=hpay1 y hym
  have hyf:=hJf y hym
  obtain ⟨hkb,hkc⟩:=hrd _ _ _ hq (hp.get (j:=0) rfl)
  have hnx:=subs_at (ht:=C.ht) (step:=X.cfg.stp) hyy
  have hb1:w.cell? ⟨b1,0,none⟩=some (ptr bk):=hp.chg.cell (cell_of_heap h1 rfl) hn1
  have hp0:=hp
  clear hp
  obtain ⟨w1,hw1⟩:∃w1:World,w1=w:=⟨_,rfl⟩
  subst hw1
  have hp:=Hp.start (S:=N0) w1
  have hB:∀b,N0 b→w1.heap.size≤b:=fun _ hh=>hh.elim
  have hdu:=fun {w:World} (hc:Chg N0 w1 w)=>due_any (hya.keep hc hB) hyf C.ht X.cfg.stp hst
  cases hd:dueP y.p C.ht X.cfg.stp with
  |none=>
   rw [subO_none hd,Option.toList_none,List.append_nil] at hnx
   have hdn:=fun {w:World} (hc:Chg N0 w1 w)=>(hdu hc).mono fun _ _ hh=>duePost_no hh hd
   ((conv=>whnf);repeat' ((first|((with_reducible refine br_id ?_);((with_reducible refine br_dec (fun hx=>?_) (fun hx=>?_))<;>(try (exfalso;first|omega|contradiction))))|((with_reducible refine cn_id ?_);(refine cn rfl ?_))|((with_reducible refine ldn_id ?_);((refine ldn_rowx hp hB ‹_› ‹_› _ rfl ‹_› rfl ?_)))|((with_reducible refine al_id ?_);(refine al_cel hp ?_;clear hp;intro bb w hp))|((with_reducible refine st_id ?_);(apply sta_hs hp;(focus repeat' constructor);exact rfl;exact rfl;clear hp;intro w hp;(try dsimp only [List.set] at hp)))|((with_reducible refine gen_id ?_);((refine gen_ixs rfl rfl ‹_› rfl rfl (by omega) ?_))))<;>(conv=>whnf)))
   refine dr_cut (fun e w=>∃(e0:Nat→Value),e=eat [(0, .func (.yield L) #[] #[]),(1,ptr b1),(6, .bool false),(8,J.v),(9,i64 J.l.length),(10,i64 i)] ⟨e0, []⟩∧Hp N0 w1 w []) ?_ ?_
   ·refine dr_autos [] 1000 tabOk (by kernel_rfl) (by decide+kernel) ?_
    replace hp:=hp.drew
    ((conv=>whnf);repeat' ((first|((with_reducible refine cn_id ?_);first|(refine cn rfl ?_)|(refine cn ‹_› ?_))|((with_reducible refine ld_id ?_);((refine ld_of (hp.chg.cell0 hb1) ?_)))|((with_reducible refine ldn_id ?_);(apply lda_hs hp;(focus repeat' constructor);exact rfl))|((with_reducible refine al_id ?_);(refine al_cel hp ?_;clear hp;intro bb w hp))|((with_reducible refine st_id ?_);(apply sta_hs hp;(focus repeat' constructor);exact rfl;exact rfl;clear hp;intro w hp;(try dsimp only [List.set] at hp)))|((with_reducible refine fk_id ?_);(refine fk_mk ?_ ?_))|((with_reducible refine cl_id ?_);first|((refine cl_eq ((bheight_any (hp.chg.heap0 hkb) (hkc.keep0 hp.chg))) rfl rfl ?_;rintro e w ⟨rfl,hcc⟩;replace hp:=hp.call0 hcc;refine ⟨_,rfl,?_⟩))|((refine cl_eq ((bconfig_any (hp.chg.heap0 hkb))) rfl rfl ?_;rintro e w ⟨rfl,hcc⟩;replace hp:=hp.call0 hcc;refine ⟨_,rfl,?_⟩))|((refine cl_eq ((hdn hp.chg)) rfl rfl ?_;rintro e w ⟨rfl,hcc⟩;replace hp:=hp.call0 hcc;refine ⟨_,rfl,?_⟩)))|((with_reducible refine rd_id ?_);((refine rd_fld rfl rfl (fld_stp X.cfg) ?_))))<;>(conv=>whnf)))
    all_goals exact ⟨_,eat_holds (by (repeat' (first|exact trivial|(refine ⟨rfl,?_⟩)))),hp.sub (List.nil_sublist _)⟩
   clear hp
   rintro e w ⟨e0,rfl,hp⟩
   ((conv=>whnf);repeat' ((first|((with_reducible refine br_id ?_);(with_reducible refine br_f ?_))|((with_reducible refine ar_id ?_);(refine ar_i64 (by omega) ?_)))<;>(conv=>whnf)))
   exact lp_next (i+1,q) (by show J.l.length - (i+1) < J.l.length - i;omega) (by (repeat' (first|exact trivial|(refine ⟨rfl,?_⟩)))) ⟨by show i+1≤_;omega,by show R (subsP C.ht X.cfg.stp ((J.l.take (i+1)).map Job.p)).length q;rw [hnx];exact hq,hp0.join hp⟩
  |some n=>
   have hdy:=fun {w:World} (hc:Chg N0 w1 w)=>(hdu hc).mono fun _ _ hh=>duePost_yes hh hd
   ((conv=>whnf);repeat' ((first|((with_reducible refine br_id ?_);((with_reducible refine br_dec (fun hx=>?_) (fun hx=>?_))<;>(try (exfalso;first|omega|contradiction))))|((with_reducible refine cn_id ?_);(refine cn rfl ?_))|((with_reducible refine ldn_id ?_);((refine ldn_rowx hp hB ‹_› ‹_› _ rfl ‹_› rfl ?_)))|((with_reducible refine al_id ?_);(refine al_cel hp ?_;clear hp;intro bb w hp))|((with_reducible refine st_id ?_);(apply sta_hs hp;(focus repeat' constructor);exact rfl;exact rfl;clear hp;intro w hp;(try dsimp only [List.set] at hp)))|((with_reducible refine gen_id ?_);((refine gen_ixs rfl rfl ‹_› rfl rfl (by omega) ?_))))<;>(conv=>whnf)))
   refine dr_cut (fun e w=>∃(z:Sub) (b5:Nat) (e0:Nat→Value),subO C.ht X.cfg.stp y.p=some z.p∧e=eat [(0, .func (.yield L) #[] #[]),(1,ptr b1),(5,ptr b5),(6, .bool true),(8,J.v),(9,i64 J.l.length),(10,i64 i)] ⟨e0, []⟩∧Hp N0 w1 w [stxR z,cel b5 69 z.c.toArray]) ?_ ?_
   ·refine dr_autos [] 1000 tabOk (by kernel_rfl) (by decide+kernel) ?_
    replace hp:=hp.drew
    ((conv=>whnf);repeat' ((first|((with_reducible refine cn_id ?_);first|(refine cn rfl ?_)|(refine cn ‹_› ?_))|((with_reducible refine ld_id ?_);((refine ld_of (hp.chg.cell0 hb1) ?_)))|((with_reducible refine ldn_id ?_);(apply lda_hs hp;(focus repeat' constructor);exact rfl))|((with_reducible refine al_id ?_);(refine al_cel hp ?_;clear hp;intro bb w hp))|((with_reducible refine st_id ?_);(apply sta_hs hp;(focus repeat' constructor);exact rfl;exact rfl;clear hp;intro w hp;(try dsimp only [List.set] at hp)))|((with_reducible refine fk_id ?_);(refine fk_mk ?_ ?_))|((with_reducible refine cl_id ?_);first|((refine cl_eq ((bheight_any (hp.chg.heap0 hkb) (hkc.keep0 hp.chg))) rfl rfl ?_;rintro e w ⟨rfl,hcc⟩;replace hp:=hp.call0 hcc;refine ⟨_,rfl,?_⟩))|((refine cl_eq ((bconfig_any (hp.chg.heap0 hkb))) rfl rfl ?_;rintro e w ⟨rfl,hcc⟩;replace hp:=hp.call0 hcc;refine ⟨_,rfl,?_⟩))|((refine cl_eq (hdy hp.chg) rfl rfl ?_;rintro e w ⟨z,hz,hzt,rfl,hm⟩;replace hp:=hp.add hm;replace hm:=hm.chg;refine ⟨_,rfl,?_⟩)))|((with_reducible refine rd_id ?_);((refine rd_fld rfl rfl (fld_stp X.cfg) ?_))))<;>(conv=>whnf)))
    all_goals first
     |exact ⟨z,_,_,hz,eat_holds (by (repeat' (first|exact trivial|(refine ⟨rfl,?_⟩)))),hp.pick [0,1] (by decide) rfl⟩
     |exact ⟨z,_,_,hz,eat_holds (by (repeat' (first|exact trivial|(refine ⟨rfl,?_⟩)))),hp.pick [1,0] (by decide) rfl⟩
   clear hp
   rintro e w ⟨z,b5,e0,hso,rfl,hp⟩
   have hxs:=subs_get hyy hso
   rw [hso] at hnx
   have hnl:(subsP C.ht X.cfg.stp ((J.l.take (i+1)).map Job.p)).length=(subsP C.ht X.cfg.stp ((J.l.take i).map Job.p)).length+1:=by rw [hnx,List.length_append];rfl
   ((conv=>whnf);repeat' ((first|((with_reducible refine br_id ?_);(with_reducible refine br_t ?_))|((with_reducible refine ldn_id ?_);(apply lda_hs hp;(focus repeat' constructor);exact rfl)))<;>(conv=>whnf)))
   have hp2:=((hp0.join hp).pick (rs':= [q,stxR z,star (jobRs J)]) [2,0,3] (by decide) rfl).fold 2
   refine yl_of (hy _ z _ q hq hxs (hp2.shut1 (j:=0) rfl)) rfl ?_
   rintro e w (⟨rfl,q',hq',hm⟩|⟨rfl,q',hq',hm⟩)
   ·have hp3:=hp2.via (j:=0) rfl hm
    dsimp only [List.set] at hp3
    clear hp hp2 hp0
    have hp:=hp3
    refine ⟨_,rfl,?_⟩
    ((conv=>whnf);repeat' ((first|((with_reducible refine br_id ?_);first|(with_reducible refine br_t ?_)|(with_reducible refine br_not ?_))|((with_reducible refine ar_id ?_);(refine ar_i64 (by omega) ?_)))<;>(conv=>whnf)))
    exact lp_next (i+1,q') (by show J.l.length - (i+1) < J.l.length - i;omega) (by (repeat' (first|exact trivial|(refine ⟨rfl,?_⟩)))) ⟨by show i+1≤_;omega,by show R (subsP C.ht X.cfg.stp ((J.l.take (i+1)).map Job.p)).length q';rw [hnl];exact hq',hp⟩
   ·have hp3:=hp2.via (j:=0) rfl hm
    dsimp only [List.set] at hp3
    clear hp hp2 hp0
    have hp:=hp3
    refine ⟨_,rfl,?_⟩
    ((conv=>whnf);repeat' (((with_reducible refine br_id ?_);first|(with_reducible refine br_t ?_)|(with_reducible refine br_f ?_)|(with_reducible refine br_not ?_))<;>(conv=>whnf)))
    exact ps_of ⟨⟨_,rfl⟩, .inr ⟨_,q',(List.getElem?_eq_some_iff.1 hxs).1,hq',hp.shut1 (j:=0) rfl⟩⟩
 ·((conv=>whnf);repeat' (((with_reducible refine br_id ?_);((with_reducible refine br_dec (fun hx=>?_) (fun hx=>?_))<;>(try (exfalso;first|omega|contradiction))))<;>(conv=>whnf)))
  have:i=J.l.length:=by omega
  subst this
  rw [List.take_of_length_le (Nat.le_refl _)] at hq
  exact ps_of ⟨⟨_,rfl⟩, .inl ⟨q,hq,hp.shut1 (j:=0) rfl⟩⟩
theorem rdue_any {w0:World} (bk:Nat):Calls Tryz.prog 71 #[ptr bk] w0 fun e w'=>∃b1,e= .returned (.func (.func 121) #[] #[ptr b1])∧Made (cel b1 57 #[ptr bk]) w0 w':=by
 have hp:=Hp.start (S:=N0) w0
 refine calls_x (args:= [_]) tabOk Tryz.func71 Tryz.ntmps71 Tryz.results71 rfl (Nat.le_of_ble_eq_true rfl) ?_
 ((conv=>whnf);repeat' ((first|((with_reducible refine al_id ?_);(refine al_cel hp ?_;clear hp;intro bb w hp))|((with_reducible refine gen_id ?_);((refine gen_mkf rfl rfl ?_))))<;>(conv=>whnf)))
 exact ps_of ⟨_,rfl,hp.made1 (j:=0) rfl⟩
def applyS (l:List (Key×EntB)) (S:List SubP):List (Key×EntB):=S.foldl (fun l s=>liveL l s.key s.tier) l
theorem applyS_snoc (l:List (Key×EntB)) (S:List SubP) (s:SubP):applyS l (S++ [s])=liveL (applyS l S) s.key s.tier:=by
 unfold applyS
 rw [List.foldl_append]
 rfl
theorem applyS_take {ord:List Key} {l:List (Key×EntB)} (hI:JtI ord l) (ht:UInt32) (step:Int):∀k,k≤l.length→applyS l (subsP ht step ((l.take k).map fun p=>p.2.job.p))=sendL ht step l k
 |0,_=>by rw [List.take_zero,sendL_zero];rfl
 |k+1,hk=>by
  have ih:=applyS_take hI ht step k (by omega)
  obtain ⟨a,ha⟩:∃a,l[k]? =some a:=⟨_,List.getElem?_eq_getElem (by omega)⟩
  have ham:=List.mem_of_getElem? ha
  have h1:subsP ht step ((l.take (k+1)).map fun p=>p.2.job.p)=subsP ht step ((l.take k).map fun p=>p.2.job.p)++(subO ht step a.2.job.p).toList:=by
   unfold subsP
   rw [List.take_add_one,ha,List.map_append,List.filterMap_append]
   congr 1
  rw [h1]
  cases hd:dueN a.2.job ht step with
  |none=>
   rw [sendL_none ha hd,←ih]
   rw [dueN_p] at hd
   rw [subO_none hd,Option.toList_none,List.append_nil]
  |some n=>
   have h2:=sendL_live (ht:=ht) (step:=step) hI.nd ha hd
   rw [←h2.2,←ih]
   rw [dueN_p] at hd
   obtain ⟨h3,_,_⟩:=dueP_lt hd
   have h4:=List.getElem?_eq_getElem h3
   rw [subO_some hd h4,Option.toList_some,applyS_snoc]
   show liveL _ a.2.job.key _=_
   rw [hI.key a ham]
theorem applyS_all {ord:List Key} {l:List (Key×EntB)} (hI:JtI ord l) (ht:UInt32) (step:Int):applyS l (subsP ht step (l.map fun p=>p.2.job.p))=l.map (sentE ht step):=by
 have:=applyS_take hI ht step l.length (Nat.le_refl _)
 rwa [List.take_length,sendL_all (Nat.le_refl _)] at this
theorem liveL_jti {ord:List Key} {l:List (Key×EntB)} (h:JtI ord l) (k:Key) (t:Int):JtI ord (liveL l k t):=by
 unfold liveL
 by_cases hE:liveE l k t=true
 ·rw [if_pos hE]
  refine h.map fun a ha=>?_
  have hr:=h.right a ha
  by_cases hk:a.1=k
  ·rw [if_pos hk]
   unfold liveE at hE
   rw [←hk,lku_nd h.nd ha] at hE
   have h2:=of_decide_eq_true hE
   exact ⟨rfl,rfl,rfl,rfl,rightJ_live hr h2.2.1 h2.2.2 (.inl h2.1)⟩
  ·rw [if_neg hk]
   exact ⟨rfl,rfl,rfl,rfl,hr⟩
 ·rw [if_neg hE]
  exact h
theorem applyS_jti {ord:List Key}:∀(S:List SubP) {l:List (Key×EntB)},JtI ord l→JtI ord (applyS l S)
 | [],_,h=>h
 |s::S,_,h=>applyS_jti S (liveL_jti h s.key s.tier)
structure ChnI (C:Chn):Prop where
 dep:1≤C.depth∧C.depth≤16
 len:(C.win.l.length:Int)≤C.depth+1
 le:C.win.l.length≤C.ht.toNat
 nd:∀c∈C.win.l,c.tx.l.Nodup∧c.tx.l.length≤32
theorem ChnI.at_ {w:World} {b:Nat} {C:Chn} (h:ChnI C) (hr:(star (chlRs b C)).ok w):ChAt w b C:=chlAt hr h.dep h.len h.le h.nd
abbrev allRs (bk:Nat) (X:Bk) (C:Chn) (m:Nat) (ord:Sl Key) (l:List (Key×EntB)):List Res:= [star (bjRs bk X m ord l),star (chlRs X.bc C)]
theorem bjRs_at {w:World} {bk m:Nat} {X:Bk} {ord:Sl Key} {l:List (Key×EntB)} (h:(star (bjRs bk X m ord l)).ok w):w.heap[bk]? =some (.cells X.c.toArray 121)∧JtAt w X.bj m ord l:=by
 have hp:=Hp.open h
 exact ⟨hp.cel_get (j:=0) rfl,jtAt (hp.get (j:=1) rfl)⟩
theorem all_any {w0:World} {bk m:Nat} {X:Bk} {C:Chn} {ord:Sl Key} {l:List (Key×EntB)} (h:(star (allRs bk X C m ord l)).ok w0) (hC:ChnI C) (hI:JtI ord.l l) (hmany:l.length≤100000) (hst: -9223372036854775808≤X.cfg.stp∧X.cfg.stp≤9223372036854775807) (hh:X.halt=0):
  Calls Tryz.prog 17 #[ptr bk] w0 fun e w'=>∃O:Sl Sub,O.l.map Sub.p=subsP C.ht X.cfg.stp (l.map fun p=>p.2.job.p)∧e= .returned O.v∧Mut (star (allRs bk X C m ord l)) (star (allRs bk X C m ord (l.map (sentE C.ht X.cfg.stp))++ [star (subRs O)])) w0 w':=by
 have hp:=Hp.open h
 obtain ⟨xs,hxs⟩:∃xs,subsP C.ht X.cfg.stp (l.map fun p=>p.2.job.p)=xs:=⟨_,rfl⟩
 have hxl:xs.length≤100000:=by
  rw [←hxs]
  refine Nat.le_trans (List.length_filterMap_le _ _) ?_
  rw [List.length_map]
  exact hmany
 have hap:=applyS_all hI C.ht X.cfg.stp
 rw [hxs] at hap
 have u1:=Tryz.underlying60
 refine calls_x (args:= [_]) tabOk Tryz.func17 Tryz.ntmps17 Tryz.results17 rfl (Nat.le_of_ble_eq_true rfl) ?_
 ((conv=>whnf);repeat' ((first|((with_reducible refine br_id ?_);((with_reducible refine br_ne (fun hx=>?_) (fun hx=>?_))<;>(try (exfalso;first|omega|contradiction))))|((with_reducible refine ld_id ?_);(apply ld_hs hp;(focus repeat' constructor);exact rfl))|((with_reducible refine al_id ?_);(refine al_cel hp ?_;clear hp;intro bb w hp))|((with_reducible refine cl_id ?_);((refine cl_eq ((bhalted_any (bjRs_at (hp.get (j:=1) rfl)).1)) rfl rfl ?_;rintro e w ⟨rfl,hcc⟩;replace hp:=hp.call0 hcc;refine ⟨_,rfl,?_⟩))))<;>(conv=>whnf)))
 all_goals first
  |(exfalso;omega)
  |skip
 obtain ⟨b3,hb3⟩:∃x,x=bb:=⟨_,rfl⟩
 subst hb3
 obtain ⟨b1,hb1⟩:∃x,x=bb:=⟨_,rfl⟩
 subst hb1
 refine cl_eq (rdue_any bk) rfl rfl ?_
 rintro e w ⟨b4,rfl,hm⟩
 replace hp:=hp.add hm
 clear hm
 refine ⟨_,rfl,?_⟩
 ((conv=>whnf);repeat' ((first|((with_reducible refine br_id ?_);first|(with_reducible refine br_t ?_)|(with_reducible refine br_f ?_)|(with_reducible refine br_not ?_)|((with_reducible refine br_dec (fun hx=>?_) (fun hx=>?_))<;>(try (exfalso;first|omega|contradiction)))|((with_reducible refine br_eq (fun hx=>?_) (fun hx=>?_))<;>(try (exfalso;first|omega|contradiction)))|((with_reducible refine br_ne (fun hx=>?_) (fun hx=>?_))<;>(try (exfalso;first|omega|contradiction)))|((with_reducible refine br_s (fun hx=>?_) (fun hx=>?_))<;>(try (exfalso;first|omega|contradiction))))|((with_reducible refine ar_id ?_);first|(refine ar_i64 (by omega) ?_)|(refine ar_u32 (by omega) ?_)|(refine ar_u64 (by omega) ?_)|(refine ar_u8 (by omega) ?_))|((with_reducible refine cn_id ?_);first|(refine cn rfl ?_)|(refine cn ‹_› ?_)|(refine cn (by omega) ?_)|(refine cn (Chg.refl _ _) ?_))|((with_reducible refine ld_id ?_);first|(apply ld_hs hp;(focus repeat' constructor);exact rfl)|(refine ld_of ‹_› ?_))|((with_reducible refine ldn_id ?_);first|(apply lda_hs hp;(focus repeat' constructor);exact rfl)|(apply ldn_hs hp;(focus repeat' constructor);exact rfl;exact rfl))|((with_reducible refine al_id ?_);(refine al_cel hp ?_;clear hp;intro bb w hp))|((with_reducible refine st_id ?_);first|(apply sta_hs hp;(focus repeat' constructor);exact rfl;exact rfl;clear hp;intro w hp;(try dsimp only [List.set] at hp))|(apply st_hs hp;(focus repeat' constructor);exact rfl;exact rfl;clear hp;intro w hp;(try dsimp only [List.set] at hp)))|((with_reducible refine gen_id ?_);first|(apply gen_build;exact rfl;exact rfl)|(apply gen_len;exact rfl;exact rfl;assumption)|(apply gen_min;exact rfl;exact rfl;exact rfl)|(apply gen_max;exact rfl;exact rfl;exact rfl)|(apply gen_ix;exact rfl;exact rfl;exact rfl;exact rfl;omega)|(apply gen_ixa;exact rfl;exact rfl;exact rfl;exact rfl;omega))|((with_reducible refine dr_id ?_);first|(refine dr_auto tabOk (by kernel_rfl) (by decide+kernel) ?_;(try replace hp:=hp.drew))|(refine dr_autog tabOk (by kernel_rfl) (by decide+kernel) ?_;(try replace hp:=hp.drew))|(refine dr_autot tabOk (by kernel_rfl) (by decide+kernel) ?_;(try replace hp:=hp.drew)))|((with_reducible refine fk_id ?_);(refine fk_mk ?_ ?_))|((with_reducible refine bg_id ?_);first|((refine bg_hs hp 0 rfl ?_);clear hp;intro w hp;(try dsimp only [List.set] at hp))|((refine bg_hs hp 1 rfl ?_);clear hp;intro w hp;(try dsimp only [List.set] at hp))|((refine bg_hs hp 2 rfl ?_);clear hp;intro w hp;(try dsimp only [List.set] at hp))|((refine bg_hs hp 3 rfl ?_);clear hp;intro w hp;(try dsimp only [List.set] at hp))|((refine bg_hs hp 4 rfl ?_);clear hp;intro w hp;(try dsimp only [List.set] at hp))|((refine bg_hs hp 5 rfl ?_);clear hp;intro w hp;(try dsimp only [List.set] at hp)))|((with_reducible refine td_id ?_);first|((refine td_hs hp 0 rfl ?_);clear hp;intro w hp;(try dsimp only [List.set] at hp))|((refine td_hs hp 1 rfl ?_);clear hp;intro w hp;(try dsimp only [List.set] at hp))|((refine td_hs hp 2 rfl ?_);clear hp;intro w hp;(try dsimp only [List.set] at hp))|((refine td_hs hp 3 rfl ?_);clear hp;intro w hp;(try dsimp only [List.set] at hp))|((refine td_hs hp 4 rfl ?_);clear hp;intro w hp;(try dsimp only [List.set] at hp))|((refine td_hs hp 5 rfl ?_);clear hp;intro w hp;(try dsimp only [List.set] at hp))|((refine td_hs hp 6 rfl ?_);clear hp;intro w hp;(try dsimp only [List.set] at hp))|((refine td_hs hp 7 rfl ?_);clear hp;intro w hp;(try dsimp only [List.set] at hp)))|((with_reducible refine rd_id ?_);first|(apply rd_len;exact rfl;exact rfl;assumption)|(apply rd_ix;exact rfl;exact rfl;exact rfl;exact rfl;omega)))<;>(conv=>whnf)))
 have hp1:Hp (star (allRs bk X C m ord l)).dom w0 w ([cel b4 57 #[ptr bk]]++ [rowR 69 37 Sub.c (Sl.nil (α:=Sub)),cel b3 60 #[(Sl.nil (α:=Sub)).v],cel b1 57 #[ptr bk],star (bjRs bk X m ord l),star (chlRs X.bc C)]):=(hp.nilRow 69 37 Sub.c).pick [1,0,2,3,4,5] (by decide) rfl
 have hT:∀b,b=b4→b < w.heap.size∧∀r∈ [rowR 69 37 Sub.c (Sl.nil (α:=Sub)),cel b3 60 #[(Sl.nil (α:=Sub)).v],cel b1 57 #[ptr bk],star (bjRs bk X m ord l),star (chlRs X.bc C)],¬r.dom b:=fun b hb=>iter_at (T:=fun _=>False) hp1 (fun _ hf=>hf.elim) b (.inl ⟨_,List.mem_cons_self ..,cel_dom.2 hb⟩)
 obtain ⟨hbk,hjt⟩:=bjRs_at (hp1.get (j:=4) rfl)
 have hc4:=cel_ok.1 (hp1.get (j:=0) rfl)
 have hit:∀w1,Chg N0 w w1→IterG Tryz.prog (fun x=>x=b4) (keptB bk X C) 121 #[ptr b4] (fun s:Sub=> #[s.v]) stxR Sub.p xs w1:=fun w1 hc=>by
  rw [←hxs]
  exact due_iter (hc.heap0 hc4) (hc.heap0 hbk) (hjt.keep0 hc) hI hmany hst
 have hp2:=hp1.sub (List.sublist_append_right _ _)
 refine rf_iterG (es:=fun y=> [(10,Sub.v y)]) (rsI:=fun i q=>∃O:Sl Sub,O.l.map Sub.p=xs.take i∧q=rowR 69 37 Sub.c O::cel b3 60 #[O.v]::cel b1 57 #[ptr bk]::star (bjRs bk X m ord (applyS l (xs.take i)))::star (chlRs X.bc C)::O.l.map stxR) (rsX:=fun _ _=>False) hp2 (by kernel_rfl) (by kernel_rfl) rfl (enters tabOk (by kernel_rfl)) (fun _=>rfl) (fun _=>zip1 _ _) hT hit ⟨Sl.nil,rfl,rfl⟩ ?_ .ret ⟨_,rfl⟩ ?_ ?_ ?_
 ·rintro i _ L D o W ⟨O,_,rfl⟩ hok
  have hp:=Hp.open hok
  exact ⟨(bjRs_at (hp.get (j:=5) rfl)).1,hC.at_ (hp.get (j:=6) rfl)⟩
 ·clear hp hp1 hp2 hT hit hbk hjt hc4
  rintro i y L D o o' W1 _ ⟨O,hO,rfl⟩ hy hc hown hp
  obtain ⟨DD,hDD⟩:∃DD,(star [star (lpR L D o (rowR 69 37 Sub.c O::cel b3 60 #[O.v]::cel b1 57 #[ptr bk]::star (bjRs bk X m ord (applyS l (xs.take i)))::star (chlRs X.bc C)::O.l.map stxR)),stxR y]).dom=DD:=⟨_,rfl⟩
  rw [hDD] at hp hown ⊢
  have hxt:xs.take (i+1)=xs.take i++ [y.p]:=by rw [List.take_add_one,hy];rfl
  have hOl:O.l.length≤100000:=by
   have:=congrArg List.length hO
   rw [List.length_map,List.length_take] at this
   omega
  have hJI:=applyS_jti (xs.take i) hI
  have hnx:=applyS_snoc l (xs.take i) y.p
  rw [←hxt] at hnx
  replace hp:Hp DD W1 W1 (objR L o::objR D (.deferred (some []))::rowR 69 37 Sub.c O::cel b3 60 #[O.v]::cel b1 57 #[ptr bk]::star (bjRs bk X m ord (applyS l (xs.take i)))::star (chlRs X.bc C)::(O.l.map stxR++ [stxR y])):=hp
  generalize applyS l (xs.take i)=l1 at hp hJI hnx
  ((conv=>whnf);repeat' ((first|((with_reducible refine cn_id ?_);(refine cn rfl ?_))|((with_reducible refine ld_id ?_);(apply ld_hs hp;(focus repeat' constructor);exact rfl))|((with_reducible refine ldn_id ?_);(apply ldn_hs hp;(focus repeat' constructor);exact rfl;exact rfl))|((with_reducible refine al_id ?_);(refine al_cel hp ?_;clear hp;intro bb w hp))|((with_reducible refine st_id ?_);(apply sta_hs hp;(focus repeat' constructor);exact rfl;exact rfl;clear hp;intro w hp;(try dsimp only [List.set] at hp)))|((with_reducible refine bg_id ?_);((refine bg_hs hp 1 rfl ?_);clear hp;intro w hp;(try dsimp only [List.set] at hp))))<;>(conv=>whnf)))
  refine cl_eq (blive_any (hp.get (j:=6) rfl) hJI y.key y.tier) rfl rfl ?_
  rintro e w ⟨rfl,hm⟩
  replace hp:=hp.via (j:=6) rfl hm
  clear hm
  dsimp only [List.set] at hp
  rw [show liveL l1 y.key y.tier=applyS l (xs.take (i+1)) from hnx.symm] at hp
  refine ⟨_,rfl,?_⟩
  ((conv=>whnf);repeat' ((first|((with_reducible refine cn_id ?_);(refine cn rfl ?_))|((with_reducible refine ld_id ?_);(apply ld_hs hp;(focus repeat' constructor);exact rfl))|((with_reducible refine ldn_id ?_);(apply lda_hs hp;(focus repeat' constructor);exact rfl))|((with_reducible refine st_id ?_);(apply sta_hs hp;(focus repeat' constructor);exact rfl;exact rfl;clear hp;intro w hp;(try dsimp only [List.set] at hp)))|((with_reducible refine gen_id ?_);first|((refine gen_bs rfl hp el_sub Sub.c [y] [Sub.v y] rfl rfl rfl (fun _ hh=>by simp at hh;subst hh;rfl) (by omega) ?_);clear hp;intro br w hp)|((refine gen_app (s:=O) rfl hp 4 rfl el_sub rfl ⟨some ⟨br,0,none⟩,1, [y]⟩ rfl (hp.row (j:=0) rfl) (fun _ _=>rfl) sub_one (by simp only [List.length_cons,List.length_nil];omega) (by simp only [maxLen,List.length_cons,List.length_nil];omega) ?_);clear hp;intro A2 c2 w hp;dsimp only [List.set] at hp)))<;>(conv=>whnf)))
  refine bo ⟨_,⟨⟨A2,c2,O.l++ [y]⟩,?_,rfl⟩,?_⟩
  ·show (O.l++ [y]).map _=_
   rw [List.map_append,hO,hxt]
   rfl
  ·show Hp _ _ _ (lpR L D o' (_::_::_::_::_::(O.l++ [y]).map stxR))
   rw [List.map_append]
   exact hp.tail.tail
 ·clear hp hp1 hp2 hT hit hbk hjt hc4
  rintro L D o W1 _ ⟨O,hO,rfl⟩ hp
  rw [List.take_length] at hO hp
  rw [hap] at hp
  ((conv=>whnf);repeat' ((first|((with_reducible refine ld_id ?_);(apply ld_hs hp;(focus repeat' constructor);exact rfl))|((with_reducible refine td_id ?_);((refine td_hs hp 1 rfl ?_);clear hp;intro w hp;(try dsimp only [List.set] at hp))))<;>(conv=>whnf)))
  refine ps_val (v':=O.v) rfl ⟨O,hO.trans hxs.symm,rfl,?_⟩
  have h1:=hp.sub (rs':=rowR 69 37 Sub.c O::star (bjRs bk X m ord (l.map (sentE C.ht X.cfg.stp)))::star (chlRs X.bc C)::O.l.map stxR) (.cons _ (.cons _ (.cons_cons _ (.cons _ (.cons _ (.refl _))))))
  have h2:Hp (star (allRs bk X C m ord l)).dom w0 _ (subRs O++ [star (bjRs bk X m ord (l.map (sentE C.ht X.cfg.stp))),star (chlRs X.bc C)]):=h1.perm (.cons _ (List.perm_append_comm (l₁:= [_,_])))
  have h3:=h2.fold (subRs O).length
  rw [List.take_left,List.drop_left] at h3
  exact (h3.perm (rs':= [_,_,_]) ((List.Perm.swap ..).trans (.cons _ (.swap ..)))).shut (.refl _)
 ·rintro i L D o W1 _ hi hf
  exact hf.elim
end Go.Proofs.YteabebmlclgakaaGreat
/- Rested: a state at rest: the program's, in new memory; the document's. Of states that are few. -/
namespace Go.Proofs.YteabebmlclgakaaGreat
open Go.RowKit
set_option maxRecDepth 100000
set_option maxHeartbeats 4000000
end Go.Proofs.YteabebmlclgakaaGreat
/- Send2: what is sent out of a state, by the document; what an evicted transaction makes of a list of jobs. Of states that are few. -/
namespace Go.Proofs.YteabebmlclgakaaGreat
open Go.RowKit
set_option maxRecDepth 100000
set_option maxHeartbeats 4000000
end Go.Proofs.YteabebmlclgakaaGreat
/- Send3: what an evicted transaction makes of a list of jobs, by the document; what goes out behind it. Of states that are few. -/
namespace Go.Proofs.YteabebmlclgakaaGreat
open Go.RowKit
set_option maxRecDepth 100000
set_option maxHeartbeats 4000000
def evJ (id:Id) (j:Job):Bool:=match j.pay.l[j.live.toNat]? with
 |some t=>decide (0≤j.live) && decide (shaV t.tx.l=id)
 |none=>false
def evP (id:Id) (j:JobP):Bool:=match j.tiers[j.live.toNat]? with
 |some t=>decide (0≤j.live) && decide (shaV t.2=id)
 |none=>false
theorem evJ_p (id:Id) (j:Job):evJ id j=evP id j.p:=by
 unfold evJ evP
 show _=match (j.pay.l.map tk)[j.live.toNat]? with
  |some t=>decide (0≤j.live) && decide (shaV t.2=id)
  |none=>false
 rw [List.getElem?_map]
 cases j.pay.l[j.live.toNat]? <;>rfl
theorem evQ_p {ord:List Key} {l:List (Key×EntB)} (hI:JtI ord l) (id:Id) {a:Key×EntB} (ha:a∈l):evQ id a.2=evP id a.2.job.p:=by
 rw [←evJ_p]
 have hr:=hI.right a ha
 unfold rightJ at hr
 rw [Bool.and_eq_true,decide_eq_true_eq] at hr
 have hl:(decide (a.2.job.live≠ -1))=decide (0≤a.2.job.live):=decide_eq_decide.2 (by omega)
 unfold evQ evJ
 rw [hI.ids a ha]
 show (match (a.2.job.pay.l.map fun t:Tier=>shaV t.tx.l)[a.2.job.live.toNat]? with
  |some v=>decide (a.2.job.live≠ -1) && decide (v=id)
  |none=>false)=_
 rw [List.getElem?_map]
 cases a.2.job.pay.l[a.2.job.live.toNat]? with
 |none=>rfl
 |some t=>exact congrArg (· && _) hl
theorem revict29_any {B:Nat} {w0:World} {l:Sl Job} (h:SlAt B w0 Job.c 38 l) (ht:∀j∈l.l,PayAt B w0 j.pay) (hr:∀j∈l.l,fewP j.pay=true∧ -1≤j.live∧j.live < (j.pay.l.length:Int)) (hn:l.l.length≤600) (id:Id):Calls Tryz.prog 20 #[l.v,id.v] w0 fun e w'=>∃(A:Option Addr) (n c:Nat) (K:Sl Key),K.l=(l.l.filter (evJ id)).map (·.key)∧e= .returned (.tuple #[.slice A n c,K.v])∧Made (rowR 42 2 Key.c K) w0 w':=by
 have hp:=Hp.start (S:=N0) w0
 have hB:∀b,N0 b→B≤b:=fun _ hh=>hh.elim
 have u4:=Tryz.underlying29
 have u1:=Tryz.underlying45
 have uk:=Tryz.underlying64
 refine calls_x (args:= [_,_]) tabOk Tryz.func20 Tryz.ntmps20 Tryz.results20 rfl (Nat.le_of_ble_eq_true rfl) ?_
 ((conv=>whnf);repeat' ((first|((with_reducible refine al_id ?_);(refine al_cel hp ?_;clear hp;intro bb w hp))|((with_reducible refine gen_id ?_);first|((refine gen_bs rfl hp el_job Job.c [] [] rfl rfl rfl (fun _ hh=>by cases hh) (by omega) ?_);clear hp;intro br w hp)|((refine gen_app (s:=⟨some ⟨br,0,none⟩,0, []⟩) rfl hp 0 rfl el_job rfl l rfl (h.keep hp.chg hB) (fun _ _=>rfl) job_one (by simp only [List.length_nil];omega) (by simp only [maxLen,List.length_nil];omega) ?_);clear hp;intro A2 c2 w hp;dsimp only [List.set] at hp)))<;>(conv=>whnf)))
 obtain ⟨b3,hb3⟩:∃b,b=bb:=⟨_,rfl⟩
 subst hb3
 have hp0:Hp N0 w0 w [rowR 49 38 Job.c ⟨A2,c2,l.l⟩,cel b3 44 id.c.toArray,rowR 42 2 Key.c Sl.nil]:=(hp.nilRow 42 2 Key.c).pick [1,2,0] (by decide) rfl
 clear hp
 refine lp_inv (α:=Nat×List Job×Sl Key) (fun a=> [(0,l.v),(3,ptr b3),(6, .slice A2 l.l.length c2),(7,a.2.2.v),(8,i64 a.1)]) (fun a w=>a.1≤l.l.length∧a.2.1.length=l.l.length∧a.2.2.l=((l.l.take a.1).filter (evJ id)).map (·.key)∧Hp N0 w0 w [rowR 49 38 Job.c ⟨A2,c2,a.2.1⟩,cel b3 44 id.c.toArray,rowR 42 2 Key.c a.2.2]) (fun a=>l.l.length - a.1) (0,l.l,Sl.nil) (by (repeat' (first|exact trivial|(refine ⟨rfl,?_⟩)))) ⟨by omega,rfl,rfl,hp0⟩ ?_
 clear hp0
 rintro ⟨i,D,K⟩ e0 w ⟨hi,hD,hK,hp⟩
 dsimp only at hi hD hK hp ⊢
 have hKl:K.l.length≤i:=by
  rw [hK,List.length_map]
  exact filter_take_le
 rcases Nat.lt_or_ge i l.l.length with hlt|hge
 ·obtain ⟨b,o,y,hA,hbb,hrow,hyy⟩:=h.has hlt
  have hym:=List.mem_of_getElem? hyy
  have hya:=ht y hym
  obtain ⟨hyf,hl1,hl2⟩:=hr y hym
  have hft:=take_filter (f:=evJ id) hyy
  obtain ⟨b2,o2,z,hA2,hbb2,_,hzz⟩:=(hp.row (j:=0) rfl).has (i:=i) (by show i < D.length;omega)
  have hA2:A2=some ⟨b2,o2,none⟩:=hA2
  have hzz:D[i]? =some z:=hzz
  have hyk:(Job.c y).take 2=Key.c y.key:=rfl
  by_cases h0:0≤y.live
  ·obtain ⟨n,hn1⟩:∃n:Nat,y.live=n:=⟨y.live.toNat,by omega⟩
   have hn2:y.live.toNat=n:=by omega
   obtain ⟨b4,o4,t,hA4,hb4,hrow4,htt⟩:=hya.row.has (i:=n) (by omega)
   have hta:=hya.tx t (List.mem_of_getElem? htt)
   have htl:=(fewP_at hyf).1 t (List.mem_of_getElem? htt)
   have hev:evJ id y=decide (shaV t.tx.l=id):=by
    unfold evJ
    rw [hn2,htt]
    dsimp only
    rw [decide_eq_true h0,Bool.true_and]
   by_cases heq:shaV t.tx.l=id
   ·rw [decide_eq_true heq] at hev
    have he:EqIs Tryz.prog 44 (shaV t.tx.l).v id.v true:=by have:=eq_id (shaV t.tx.l) id;rwa [decide_eq_true heq] at this
    have hn1':(if BinOp.eql=BinOp.eql then true else !true)=true:=rfl
    rw [if_pos hev] at hft
    ((conv=>whnf);repeat' ((first|((with_reducible refine br_id ?_);((with_reducible refine br_dec (fun hx=>?_) (fun hx=>?_))<;>(try (exfalso;first|omega|contradiction))))|((with_reducible refine gen_id ?_);(apply gen_len;exact rfl;exact rfl;assumption)))<;>(conv=>whnf)))
    refine dr_autos [] 1000 tabOk (by kernel_rfl) (by decide+kernel) ?_
    replace hp:=hp.drew
    ((conv=>whnf);repeat' ((first|((with_reducible refine br_id ?_);first|((with_reducible refine br_1 hn1' ?_))|(with_reducible refine br_t ?_)|((with_reducible refine br_dec (fun hx=>?_) (fun hx=>?_))<;>(try (exfalso;first|omega|contradiction))))|((with_reducible refine ar_id ?_);(refine ar_i64 (by omega) ?_))|((with_reducible refine cn_id ?_);first|(refine cn rfl ?_)|(refine cn ‹_› ?_))|((with_reducible refine ld_id ?_);first|((refine ld_row hp hB ‹_› ‹_› _ _ rfl ‹_› (by rfl) ?_))|((refine ld_row hp hB hb4 hrow4 n 1 (by rw [hn2];rfl) htt rfl ?_)))|((with_reducible refine ldn_id ?_);first|((refine ldn_row hp hB ‹_› ‹_› _ _ rfl ‹_› (by rfl) (by rfl) ?_))|(apply lda_hs hp;(focus repeat' constructor);exact rfl))|((with_reducible refine st_id ?_);((refine st_own hp 0 rfl hA2 i 36 rfl hzz {z with live:= -1} rfl (by simp) rfl ?_);clear hp;intro w hp;dsimp only [List.set] at hp))|((with_reducible refine gen_id ?_);first|((refine gen_ixs rfl rfl ‹_› rfl rfl (by omega) ?_))|((refine gen_bs rfl hp el_key Key.c [y.key] [y.key.v] rfl rfl rfl (fun _ hh=>by simp at hh;subst hh;rfl) (by omega) ?_);clear hp;intro br w hp)|((refine gen_app (s:=K) rfl hp 3 rfl el_key rfl ⟨some ⟨br,0,none⟩,1, [y.key]⟩ rfl (hp.row (j:=0) rfl) (fun _ _=>rfl) key_one (by simp only [List.length_cons,List.length_nil];omega) (by simp only [maxLen,List.length_cons,List.length_nil];omega) ?_);clear hp;intro A3 c3 w hp;dsimp only [List.set] at hp))|((with_reducible refine cl_id ?_);((refine cl_eq ((rid_any (hta.keep hp.chg hB) (by omega))) rfl rfl ?_;rintro e w ⟨rfl,hcc⟩;replace hp:=hp.call0 hcc;refine ⟨_,rfl,?_⟩)))|((with_reducible refine rd_id ?_);first|((refine rd_ixs rfl rfl ‹_› rfl rfl (by omega) ?_))|((refine rd_eqa rfl rfl rfl he (by kernel_rfl) (.inl rfl) ?_))))<;>(conv=>whnf)))
    all_goals first
     |(exfalso;omega)
     |exact lp_next (i+1,D.set i {z with live:= -1},⟨A3,c3,K.l++ [y.key]⟩) (by show l.l.length - (i+1) < l.l.length - i;omega) (by (repeat' (first|exact trivial|(refine ⟨rfl,?_⟩)))) ⟨by show i+1≤_;omega,by show (D.set i _).length=_;rw [List.length_set];exact hD,by show K.l++ [y.key]=_;rw [hft,List.map_append,hK];rfl,hp.tail⟩
   ·rw [decide_eq_false heq] at hev
    have he:EqIs Tryz.prog 44 (shaV t.tx.l).v id.v false:=by have:=eq_id (shaV t.tx.l) id;rwa [decide_eq_false heq] at this
    have hn0':(if BinOp.eql=BinOp.eql then false else !false)=false:=rfl
    rw [if_neg (by rw [hev];simp)] at hft
    ((conv=>whnf);repeat' ((first|((with_reducible refine br_id ?_);((with_reducible refine br_dec (fun hx=>?_) (fun hx=>?_))<;>(try (exfalso;first|omega|contradiction))))|((with_reducible refine gen_id ?_);(apply gen_len;exact rfl;exact rfl;assumption)))<;>(conv=>whnf)))
    refine dr_autos [] 1000 tabOk (by kernel_rfl) (by decide+kernel) ?_
    replace hp:=hp.drew
    ((conv=>whnf);repeat' ((first|((with_reducible refine br_id ?_);first|((with_reducible refine br_0 hn0' ?_))|(with_reducible refine br_t ?_)|((with_reducible refine br_dec (fun hx=>?_) (fun hx=>?_))<;>(try (exfalso;first|omega|contradiction))))|((with_reducible refine ar_id ?_);(refine ar_i64 (by omega) ?_))|((with_reducible refine cn_id ?_);(refine cn ‹_› ?_))|((with_reducible refine ld_id ?_);first|((refine ld_row hp hB ‹_› ‹_› _ _ rfl ‹_› (by rfl) ?_))|((refine ld_row hp hB hb4 hrow4 n 1 (by rw [hn2];rfl) htt rfl ?_)))|((with_reducible refine ldn_id ?_);(apply lda_hs hp;(focus repeat' constructor);exact rfl))|((with_reducible refine cl_id ?_);((refine cl_eq ((rid_any (hta.keep hp.chg hB) (by omega))) rfl rfl ?_;rintro e w ⟨rfl,hcc⟩;replace hp:=hp.call0 hcc;refine ⟨_,rfl,?_⟩)))|((with_reducible refine rd_id ?_);first|((refine rd_ixs rfl rfl ‹_› rfl rfl (by omega) ?_))|((refine rd_eqa rfl rfl rfl he (by kernel_rfl) (.inl rfl) ?_))))<;>(conv=>whnf)))
    all_goals first
     |(exfalso;omega)
     |exact lp_next (i+1,D,K) (by show l.l.length - (i+1) < l.l.length - i;omega) (by (repeat' (first|exact trivial|(refine ⟨rfl,?_⟩)))) ⟨by show i+1≤_;omega,hD,by show K.l=_;rw [hft,List.append_nil];exact hK,hp⟩
  ·have hev:evJ id y=false:=by
    unfold evJ
    rw [decide_eq_false h0]
    cases y.pay.l[y.live.toNat]? <;>rfl
   rw [if_neg (by rw [hev];simp)] at hft
   ((conv=>whnf);repeat' ((first|((with_reducible refine br_id ?_);((with_reducible refine br_dec (fun hx=>?_) (fun hx=>?_))<;>(try (exfalso;first|omega|contradiction))))|((with_reducible refine gen_id ?_);(apply gen_len;exact rfl;exact rfl;assumption)))<;>(conv=>whnf)))
   refine dr_autos [] 1000 tabOk (by kernel_rfl) (by decide+kernel) ?_
   replace hp:=hp.drew
   ((conv=>whnf);repeat' ((first|((with_reducible refine br_id ?_);first|(with_reducible refine br_f ?_)|((with_reducible refine br_dec (fun hx=>?_) (fun hx=>?_))<;>(try (exfalso;first|omega|contradiction))))|((with_reducible refine ar_id ?_);(refine ar_i64 (by omega) ?_))|((with_reducible refine ld_id ?_);((refine ld_row hp hB ‹_› ‹_› _ _ rfl ‹_› (by rfl) ?_)))|((with_reducible refine rd_id ?_);((refine rd_ixs rfl rfl ‹_› rfl rfl (by omega) ?_))))<;>(conv=>whnf)))
   all_goals first
    |(exfalso;omega)
    |exact lp_next (i+1,D,K) (by show l.l.length - (i+1) < l.l.length - i;omega) (by (repeat' (first|exact trivial|(refine ⟨rfl,?_⟩)))) ⟨by show i+1≤_;omega,hD,by show K.l=_;rw [hft,List.append_nil];exact hK,hp⟩
 ·rw [List.take_of_length_le hge] at hK
  ((conv=>whnf);repeat' ((first|((with_reducible refine br_id ?_);((with_reducible refine br_dec (fun hx=>?_) (fun hx=>?_))<;>(try (exfalso;first|omega|contradiction))))|((with_reducible refine gen_id ?_);(apply gen_len;exact rfl;exact rfl;assumption)))<;>(conv=>whnf)))
  exact ps_of ⟨_,_,_,K,hK,rfl,hp.made1 (j:=2) rfl⟩
def outE (ht:UInt32) (a:Key×EntB):SubP:=⟨a.1,a.2.job.breach,ht,a.2.job.live,((a.2.job.p.tiers[a.2.job.live.toNat]?).getD (0, [])).2⟩
theorem sub_off {ht:UInt32} {step:Int} {id:Id} {j:JobP} (hd:dueP j ht step=none) (he:evP id j=true) (hm:j.mined.toNat=0) (hl:j.live < (j.tiers.length:Int)):subO ht step {j with live:= -1}=some ⟨j.key,j.breach,ht,j.live,((j.tiers[j.live.toNat]?).getD (0, [])).2⟩∧∃t,j.tiers[j.live.toNat]? =some t∧shaV t.2=id:=by
 unfold evP at he
 cases ht':j.tiers[j.live.toNat]? with
 |none=>rw [ht'] at he;cases he
 |some t=>
  rw [ht'] at he
  rw [Bool.and_eq_true,decide_eq_true_eq,decide_eq_true_eq] at he
  have h0:=he.1
  have hlen:j.tiers.length≠0:=by omega
  have hT:(tierAt j.height.toNat ht.toNat step j.tiers.length:Int)=j.live:=by
   unfold dueP at hd
   split at hd
   ·omega
   ·cases hd
  have hdue:dueP {j with live:= -1} ht step=some (tierAt j.height.toNat ht.toNat step j.tiers.length):=by
   unfold dueP
   dsimp only
   rw [if_neg (by omega)]
  have hn:j.live.toNat=tierAt j.height.toNat ht.toNat step j.tiers.length:=by omega
  refine ⟨?_,t,rfl,he.2⟩
  rw [subO_some (t:=t) hdue (by dsimp only;rw [←hn];exact ht')]
  dsimp only
  rw [hT]
  rfl
theorem offL_subs {ord:List Key} {l:List (Key×EntB)} (hI:JtI ord l) {ht:UInt32} {step:Int} (id:Id) (hd:∀a∈l,dueP a.2.job.p ht step=none):
  subsP ht step ((offL (thoK (evQ id) l) l).map fun p=>p.2.job.p)=(l.filter fun a=>evQ id a.2).map (outE ht):=by
 have hk:∀a∈l,(a.1∈thoK (evQ id) l)=(evQ id a.2=true):=fun a ha=>propext ⟨fun h=>by
  obtain ⟨b,hb,hbe⟩:=List.mem_map.1 h
  obtain ⟨hb1,hb2⟩:=List.mem_filter.1 hb
  have h1:=lku_nd hI.nd ha
  have h2:=lku_nd hI.nd hb1
  rw [hbe,h1] at h2
  have h3:b.2=a.2:=(Option.some.inj h2).symm
  rw [←h3]
  exact hb2,fun h=>List.mem_map.2 ⟨a,List.mem_filter.2 ⟨ha,h⟩,rfl⟩⟩
 generalize thoK (evQ id) l=K at hk
 have key:∀m:List (Key×EntB),(∀a∈m,a∈l)→subsP ht step ((offL K m).map fun p=>p.2.job.p)=(m.filter fun a=>evQ id a.2).map (outE ht):=by
  intro m
  induction m with
  |nil=>intro _;rfl
  |cons a m ih=>
   intro hm
   have ha:=hm a (List.mem_cons_self ..)
   have ih:=ih fun b hb=>hm b (List.mem_cons_of_mem _ hb)
   have hka:=hk a ha
   have hda:=hd a ha
   have hr:=hI.right a ha
   unfold rightJ at hr
   rw [Bool.and_eq_true,decide_eq_true_eq] at hr
   have hpl:a.2.job.p.tiers.length=a.2.job.pay.l.length:=List.length_map ..
   unfold subsP offL at ih ⊢
   rw [List.map_cons,List.map_cons,List.filterMap_cons,ih]
   by_cases he:evQ id a.2=true
   ·have hin:a.1∈K:=by rw [hka];exact he
    have hev:evP id a.2.job.p=true:=by rw [←evQ_p hI id ha];exact he
    have h0:0≤a.2.job.live:=by
     unfold evP at hev
     split at hev
     ·rw [Bool.and_eq_true,decide_eq_true_eq] at hev
      exact hev.1
     ·cases hev
    have hs:=(sub_off (step:=step) hda hev (by show a.2.job.mined.toNat=0;omega) (by show a.2.job.live < _;omega)).1
    rw [if_pos hin,List.filter_cons_of_pos (p:=fun a:Key×EntB=>evQ id a.2) he,List.map_cons]
    rw [show (setP a (-1)).2.job.p={a.2.job.p with live:= -1} from rfl,hs]
    show _::_=_::_
    congr 1
    unfold outE
    rw [←hI.key a ha]
    rfl
   ·have hin:¬a.1∈K:=by rw [hka];exact he
    rw [if_neg hin,List.filter_cons_of_neg (p:=fun a:Key×EntB=>evQ id a.2) he]
    rw [subO_none hda]
 exact key l fun _ h=>h
end Go.Proofs.YteabebmlclgakaaGreat
/- Shelf8: what the law ShelfFound asks: holder, Bytes, counts. -/
namespace Go.Proofs.YteabebmlclgakaaGreat
open Go.RowKit
set_option maxRecDepth 100000
set_option maxHeartbeats 2000000
theorem key_ne {x k:Key} (h:¬x=k):¬((x.ses.toNat:Int)=k.ses.toNat∧(x.seq.toNat:Int)=k.seq.toNat):=fun ⟨h1,h2⟩=>h (by
 obtain ⟨a,b⟩:=x
 obtain ⟨e,f⟩:=k
 have h3:a=e:=UInt32.toNat_inj.1 (Int.ofNat.inj h1)
 have h4:b=f:=UInt32.toNat_inj.1 (Int.ofNat.inj h2)
 rw [h3,h4])
end Go.Proofs.YteabebmlclgakaaGreat
