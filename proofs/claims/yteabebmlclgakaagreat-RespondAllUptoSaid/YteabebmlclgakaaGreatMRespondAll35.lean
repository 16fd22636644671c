/- MRespondAll35: Send1, Rested, Send2, Send3. -/
import Derived.Test.YteabebmlclgakaaGreatMRespondAll34
import Derived.Test.YteabebmlclgakaaGreatMRespondAll25
import Derived.Test.YteabebmlclgakaaGreatMRespondAll11
import Derived.Test.YteabebmlclgakaaGreatMRespondAll17
import Derived.Test.YteabebmlclgakaaGreatMRespondAll21
import Derived.Test.YteabebmlclgakaaGreatMRespondAll9
import Derived.Test.YteabebmlclgakaaGreatMRespondAllsTailS
set_option linter.unusedSimpArgs false
set_option linter.unusedVariables false
/- Send1: package respond: what is sent out of a book. Of states that are few. -/
namespace Go.Proofs.YteabebmlclgakaaGreat
open Go.RowKit
set_option maxRecDepth 100000
set_option maxHeartbeats 4000000
def keptB (bk:Nat) (X:Bk) (C:Chn) (w:World):Prop:=w.heap[bk]? =some (.cells X.c.toArray 121)∧ChAt w X.bc C
theorem subs_at {ht:UInt32} {step:Int} {J:List Job} {i:Nat} {y:Job} (hy:J[i]? =some y):subsP ht step ((J.take (i+1)).map Job.p)=subsP ht step ((J.take i).map Job.p)++(subO ht step y.p).toList:=by
 unfold subsP
 rw [List.take_add_one,hy,List.map_append,List.filterMap_append]
 congr 1
theorem subs_get {ht:UInt32} {step:Int} {J:List Job} {i:Nat} {y:Job} {s:SubP} (hy:J[i]? =some y) (hs:subO ht step y.p=some s):(subsP ht step (J.map Job.p))[(subsP ht step ((J.take i).map Job.p)).length]? =some s:=by
 have h1:=subs_at (ht:=ht) (step:=step) hy
 rw [hs] at h1
 have h2:subsP ht step (J.map Job.p)=subsP ht step ((J.take (i+1)).map Job.p)++subsP ht step ((J.drop (i+1)).map Job.p):=by
  unfold subsP
  rw [←List.filterMap_append,←List.map_append,List.take_append_drop]
 rw [h2,h1,List.append_assoc,List.getElem?_append_right (Nat.le_refl _),Nat.sub_self]
 rfl
theorem fld_stp (x:Cfg) (w:World):(Instr.field 23 x.v 1).run Tryz.prog w= .ok (i64 x.stp) w:=by kernel_rfl
theorem due_iter {w0:World} {bk b1 m:Nat} {X:Bk} {C:Chn} {ord:Sl Key} {l:List (Key×EntB)} (h1:w0.heap[b1]? =some (.cells #[ptr bk] 57)) (hb:w0.heap[bk]? =some (.cells X.c.toArray 121)) (hj:JtAt w0 X.bj m ord l) (hI:JtI ord.l l) (hmany:l.length≤100000) (hst: -9223372036854775808≤X.cfg.stp∧X.cfg.stp≤9223372036854775807):
  IterG Tryz.prog (fun x=>x=b1) (keptB bk X C) 121 #[ptr b1] (fun s:Sub=> #[s.v]) stxR Sub.p (subsP C.ht X.cfg.stp (l.map fun p=>p.2.job.p)) w0:=by
 refine ⟨fun L R Z r0 hR0 hR hdis hrd hy=>?_⟩
 have hp:=Hp.start1 hR
 have hn1:¬r0.dom b1:=fun hh=>hdis _ hh rfl
 have u1:=Tryz.underlying29
 show Calls _ _ #[.func (.yield L) #[] #[],ptr b1] w0 _
 refine calls_x (args:= [_,_]) tabOk Tryz.func121 Tryz.ntmps121 Tryz.results121 rfl (Nat.le_of_ble_eq_true rfl) ?_
 ((conv=>whnf);repeat' (((with_reducible refine ld_id ?_);((refine ld_of (hp.chg.cell (cell_of_heap h1 rfl) hn1) ?_)))<;>(conv=>whnf)))
 refine cl_eq (bjobs_any hb hj hI hmany) rfl rfl ?_
 rintro e w ⟨J,hJ,rfl,hm⟩
 replace hp:=hp.add hm
 clear hm
 refine ⟨_,rfl,?_⟩
 rw [←hJ] at hy ⊢
 have hJl:J.l.length=l.length:=by have:=congrArg List.length hJ;rwa [List.length_map,List.length_map] at this
 have hJf:∀y∈J.l,fewP y.pay=true:=fun y hym=>by
  have h2:y.p∈l.map (fun p=>p.2.job.p):=hJ▸List.mem_map_of_mem hym
  obtain ⟨p,hpm,hpe⟩:=List.mem_map.1 h2
  have h3:p.2.job.pay.l.map tk=y.pay.l.map tk:=congrArg JobP.tiers hpe
  have h4:rightP y.pay=true:=by rw [←rightP_congr h3];exact rightJ_pay (hI.right p hpm)
  exact rightP_few h4
 ((conv=>whnf);repeat' (((with_reducible refine gen_id ?_);(apply gen_len;exact rfl;exact rfl;assumption))<;>(conv=>whnf)))
 refine lp_inv (α:=Nat×Res) (fun a=> [(0, .func (.yield L) #[] #[]),(1,ptr b1),(8,J.v),(9,i64 J.l.length),(10,i64 a.1)]) (fun a w=>a.1≤J.l.length∧R (subsP C.ht X.cfg.stp ((J.l.take a.1).map Job.p)).length a.2∧Hp r0.dom w0 w [a.2,star (jobRs J)]) (fun a=>J.l.length - a.1) (0,r0) (by (repeat' (first|exact trivial|(refine ⟨rfl,?_⟩)))) ⟨by omega,hR0,hp.pick [1,0] (by decide) rfl⟩ ?_
 clear hp
 rintro ⟨i,q⟩ e0 w ⟨hi,hq,hp⟩
 dsimp only at hi hq hp ⊢
 rcases Nat.lt_or_ge i J.l.length with hlt|hge
 ·obtain ⟨hrow1,hpay1⟩:=jobRs_at (hp.get (j:=1) rfl)
  obtain ⟨b,o,y,hA,hbb,hrow,hyy⟩:=hrow1.has hlt
  have hym:=List.mem_of_getElem? hyy
  have hya:=hpay1 y hym
  have hyf:=hJf y hym
  obtain ⟨hkb,hkc⟩:=hrd _ _ _ hq (hp.get (j:=0) rfl)
  have hnx:=subs_at (ht:=C.ht) (step:=X.cfg.stp) hyy
  have hb1:w.cell? ⟨b1,0,none⟩=some (ptr bk):=hp.chg.cell (cell_of_heap h1 rfl) hn1
  have hp0:=hp
  clear hp
  obtain ⟨w1,hw1⟩:∃w1:World,w1=w:=⟨_,rfl⟩
  subst hw1
  have hp:=Hp.start (S:=N0) w1
  have hB:∀b,N0 b→w1.heap.size≤b:=fun _ hh=>hh.elim
  have hdu:=fun {w:World} (hc:Chg N0 w1 w)=>due_any (hya.keep hc hB) hyf C.ht X.cfg.stp hst
  cases hd:dueP y.p C.ht X.cfg.stp with
  |none=>
   rw [subO_none hd,Option.toList_none,List.append_nil] at hnx
   have hdn:=fun {w:World} (hc:Chg N0 w1 w)=>(hdu hc).mono fun _ _ hh=>duePost_no hh hd
   ((conv=>whnf);repeat' ((first|((with_reducible refine br_id ?_);((with_reducible refine br_dec (fun hx=>?_) (fun hx=>?_))<;>(try (exfalso;first|omega|contradiction))))|((with_reducible refine cn_id ?_);(refine cn rfl ?_))|((with_reducible refine ldn_id ?_);((refine ldn_rowx hp hB ‹_› ‹_› _ rfl ‹_› rfl ?_)))|((with_reducible refine al_id ?_);(refine al_cel hp ?_;clear hp;intro bb w hp))|((with_reducible refine st_id ?_);(apply sta_hs hp;(focus repeat' constructor);exact rfl;exact rfl;clear hp;intro w hp;(try dsimp only [List.set] at hp)))|((with_reducible refine gen_id ?_);((refine gen_ixs rfl rfl ‹_› rfl rfl (by omega) ?_))))<;>(conv=>whnf)))
   refine dr_cut (fun e w=>∃(e0:Nat→Value),e=eat [(0, .func (.yield L) #[] #[]),(1,ptr b1),(6, .bool false),(8,J.v),(9,i64 J.l.length),(10,i64 i)] ⟨e0, []⟩∧Hp N0 w1 w []) ?_ ?_
   ·refine dr_autos [] 1000 tabOk (by kernel_rfl) (by decide+kernel) ?_
    replace hp:=hp.drew
    ((conv=>whnf);repeat' ((first|((with_reducible refine cn_id ?_);first|(refine cn rfl ?_)|(refine cn ‹_› ?_))|((with_reducible refine ld_id ?_);((refine ld_of (hp.chg.cell0 hb1) ?_)))|((with_reducible refine ldn_id ?_);(apply lda_hs hp;(focus repeat' constructor);exact rfl))|((with_reducible refine al_id ?_);(refine al_cel hp ?_;clear hp;intro bb w hp))|((with_reducible refine st_id ?_);(apply sta_hs hp;(focus repeat' constructor);exact rfl;exact rfl;clear hp;intro w hp;(try dsimp only [List.set] at hp)))|((with_reducible refine fk_id ?_);(refine fk_mk ?_ ?_))|((with_reducible refine cl_id ?_);first|((refine cl_eq ((bheight_any (hp.chg.heap0 hkb) (hkc.keep0 hp.chg))) rfl rfl ?_;rintro e w ⟨rfl,hcc⟩;replace hp:=hp.call0 hcc;refine ⟨_,rfl,?_⟩))|((refine cl_eq ((bconfig_any (hp.chg.heap0 hkb))) rfl rfl ?_;rintro e w ⟨rfl,hcc⟩;replace hp:=hp.call0 hcc;refine ⟨_,rfl,?_⟩))|((refine cl_eq ((hdn hp.chg)) rfl rfl ?_;rintro e w ⟨rfl,hcc⟩;replace hp:=hp.call0 hcc;refine ⟨_,rfl,?_⟩)))|((with_reducible refine rd_id ?_);((refine rd_fld rfl rfl (fld_stp X.cfg) ?_))))<;>(conv=>whnf)))
    all_goals exact ⟨_,eat_holds (by (repeat' (first|exact trivial|(refine ⟨rfl,?_⟩)))),hp.sub (List.nil_sublist _)⟩
   clear hp
   rintro e w ⟨e0,rfl,hp⟩
   ((conv=>whnf);repeat' ((first|((with_reducible refine br_id ?_);(with_reducible refine br_f ?_))|((with_reducible refine ar_id ?_);(refine ar_i64 (by omega) ?_)))<;>(conv=>whnf)))
   exact lp_next (i+1,q) (by show J.l.length - (i+1) < J.l.length - i;omega) (by (repeat' (first|exact trivial|(refine ⟨rfl,?_⟩)))) ⟨by show i+1≤_;omega,by show R (subsP C.ht X.cfg.stp ((J.l.take (i+1)).map Job.p)).length q;rw [hnx];exact hq,hp0.join hp⟩
  |some n=>
   have hdy:=fun {w:World} (hc:Chg N0 w1 w)=>(hdu hc).mono fun _ _ hh=>duePost_yes hh hd
   ((conv=>whnf);repeat' ((first|((with_reducible refine br_id ?_);((with_reducible refine br_dec (fun hx=>?_) (fun hx=>?_))<;>(try (exfalso;first|omega|contradiction))))|((with_reducible refine cn_id ?_);(refine cn rfl ?_))|((with_reducible refine ldn_id ?_);((refine ldn_rowx hp hB ‹_› ‹_› _ rfl ‹_› rfl ?_)))|((with_reducible refine al_id ?_);(refine al_cel hp ?_;clear hp;intro bb w hp))|((with_reducible refine st_id ?_);(apply sta_hs hp;(focus repeat' constructor);exact rfl;exact rfl;clear hp;intro w hp;(try dsimp only [List.set] at hp)))|((with_reducible refine gen_id ?_);((refine gen_ixs rfl rfl ‹_› rfl rfl (by omega) ?_))))<;>(conv=>whnf)))
   refine dr_cut (fun e w=>∃(z:Sub) (b5:Nat) (e0:Nat→Value),subO C.ht X.cfg.stp y.p=some z.p∧e=eat [(0, .func (.yield L) #[] #[]),(1,ptr b1),(5,ptr b5),(6, .bool true),(8,J.v),(9,i64 J.l.length),(10,i64 i)] ⟨e0, []⟩∧Hp N0 w1 w [stxR z,cel b5 69 z.c.toArray]) ?_ ?_
   ·refine dr_autos [] 1000 tabOk (by kernel_rfl) (by decide+kernel) ?_
    replace hp:=hp.drew
    ((conv=>whnf);repeat' ((first|((with_reducible refine cn_id ?_);first|(refine cn rfl ?_)|(refine cn ‹_› ?_))|((with_reducible refine ld_id ?_);((refine ld_of (hp.chg.cell0 hb1) ?_)))|((with_reducible refine ldn_id ?_);(apply lda_hs hp;(focus repeat' constructor);exact rfl))|((with_reducible refine al_id ?_);(refine al_cel hp ?_;clear hp;intro bb w hp))|((with_reducible refine st_id ?_);(apply sta_hs hp;(focus repeat' constructor);exact rfl;exact rfl;clear hp;intro w hp;(try dsimp only [List.set] at hp)))|((with_reducible refine fk_id ?_);(refine fk_mk ?_ ?_))|((with_reducible refine cl_id ?_);first|((refine cl_eq ((bheight_any (hp.chg.heap0 hkb) (hkc.keep0 hp.chg))) rfl rfl ?_;rintro e w ⟨rfl,hcc⟩;replace hp:=hp.call0 hcc;refine ⟨_,rfl,?_⟩))|((refine cl_eq ((bconfig_any (hp.chg.heap0 hkb))) rfl rfl ?_;rintro e w ⟨rfl,hcc⟩;replace hp:=hp.call0 hcc;refine ⟨_,rfl,?_⟩))|((refine cl_eq (hdy hp.chg) rfl rfl ?_;rintro e w ⟨z,hz,hzt,rfl,hm⟩;replace hp:=hp.add hm;replace hm:=hm.chg;refine ⟨_,rfl,?_⟩)))|((with_reducible refine rd_id ?_);((refine rd_fld rfl rfl (fld_stp X.cfg) ?_))))<;>(conv=>whnf)))
    all_goals first
     |exact ⟨z,_,_,hz,eat_holds (by (repeat' (first|exact trivial|(refine ⟨rfl,?_⟩)))),hp.pick [0,1] (by decide) rfl⟩
     |exact ⟨z,_,_,hz,eat_holds (by (repeat' (first|exact trivial|(refine ⟨rfl,?_⟩)))),hp.pick [1,0] (by decide) rfl⟩
   clear hp
   rintro e w ⟨z,b5,e0,hso,rfl,hp⟩
   have hxs:=subs_get hyy hso
   rw [hso] at hnx
   have hnl:(subsP C.ht X.cfg.stp ((J.l.take (i+1)).map Job.p)).length=(subsP C.ht X.cfg.stp ((J.l.take i).map Job.p)).length+1:=by rw [hnx,List.length_append];rfl
   ((conv=>whnf);repeat' ((first|((with_reducible refine br_id ?_);(with_reducible refine br_t ?_))|((with_reducible refine ldn_id ?_);(apply lda_hs hp;(focus repeat' constructor);exact rfl)))<;>(conv=>whnf)))
   have hp2:=((hp0.join hp).pick (rs':= [q,stxR z,star (jobRs J)]) [2,0,3] (by decide) rfl).fold 2
   refine yl_of (hy _ z _ q hq hxs (hp2.shut1 (j:=0) rfl)) rfl ?_
   rintro e w (⟨rfl,q',hq',hm⟩|⟨rfl,q',hq',hm⟩)
   ·have hp3:=hp2.via (j:=0) rfl hm
    dsimp only [List.set] at hp3
    clear hp hp2 hp0
    have hp:=hp3
    refine ⟨_,rfl,?_⟩
    ((conv=>whnf);repeat' ((first|((with_reducible refine br_id ?_);first|(with_reducible refine br_t ?_)|(with_reducible refine br_not ?_))|((with_reducible refine ar_id ?_);(refine ar_i64 (by omega) ?_)))<;>(conv=>whnf)))
    exact lp_next (i+1,q') (by show J.l.length - (i+1) < J.l.length - i;omega) (by (repeat' (first|exact trivial|(refine ⟨rfl,?_⟩)))) ⟨by show i+1≤_;omega,by show R (subsP C.ht X.cfg.stp ((J.l.take (i+1)).map Job.p)).length q';rw [hnl];exact hq',hp⟩
   ·have hp3:=hp2.via (j:=0) rfl hm
    dsimp only [List.set] at hp3
    clear hp hp2 hp0
    have hp:=hp3
    refine ⟨_,rfl,?_⟩
    ((conv=>whnf);repeat' (((with_reducible refine br_id ?_);first|(with_reducible refine br_t ?_)|(with_reducible refine br_f ?_)|(with_reducible refine br_not ?_))<;>(conv=>whnf)))
    exact ps_of ⟨⟨_,rfl⟩, .inr ⟨_,q',(List.getElem?_eq_some_iff.1 hxs).1,hq',hp.shut1 (j:=0) rfl⟩⟩
 ·((conv=>whnf);repeat' (((with_reducible refine br_id ?_);((with_reducible refine br_dec (fun hx=>?_) (fun hx=>?_))<;>(try (exfalso;first|omega|contradiction))))<;>(conv=>whnf)))
  have:i=J.l.length:=by omega
  subst this
  rw [List.take_of_length_le (Nat.le_refl _)] at hq
  exact ps_of ⟨⟨_,rfl⟩, .inl ⟨q,hq,hp.shut1 (j:=0) rfl⟩⟩
theorem rdue_any {w0:World} (bk:Nat):Calls Tryz.prog 71 #[ptr bk] w0 fun e w'=>∃b1,e= .returned (.func (.func 121) #[] #[ptr b1])∧Made (cel b1 57 #[ptr bk]) w0 w':=by
 have hp:=Hp.start (S:=N0) w0
 refine calls_x (args:= [_]) tabOk Tryz.func71 Tryz.ntmps71 Tryz.results71 rfl (Nat.le_of_ble_eq_true rfl) ?_
 ((conv=>whnf);repeat' ((first|((with_reducible refine al_id ?_);(refine al_cel hp ?_;clear hp;intro bb w hp))|((with_reducible refine gen_id ?_);((refine gen_mkf rfl rfl ?_))))<;>(conv=>whnf)))
 exact ps_of ⟨_,rfl,hp.made1 (j:=0) rfl⟩
def applyS (l:List (Key×EntB)) (S:List SubP):List (Key×EntB):=S.foldl (fun l s=>liveL l s.key s.tier) l
theorem applyS_snoc (l:List (Key×EntB)) (S:List SubP) (s:SubP):applyS l (S++ [s])=liveL (applyS l S) s.key s.tier:=by
 unfold applyS
 rw [List.foldl_append]
 rfl
theorem applyS_take {ord:List Key} {l:List (Key×EntB)} (hI:JtI ord l) (ht:UInt32) (step:Int):∀k,k≤l.length→applyS l (subsP ht step ((l.take k).map fun p=>p.2.job.p))=sendL ht step l k
 |0,_=>by rw [List.take_zero,sendL_zero];rfl
 |k+1,hk=>by
  have ih:=applyS_take hI ht step k (by omega)
  obtain ⟨a,ha⟩:∃a,l[k]? =some a:=⟨_,List.getElem?_eq_getElem (by omega)⟩
  have ham:=List.mem_of_getElem? ha
  have h1:subsP ht step ((l.take (k+1)).map fun p=>p.2.job.p)=subsP ht step ((l.take k).map fun p=>p.2.job.p)++(subO ht step a.2.job.p).toList:=by
   unfold subsP
   rw [List.take_add_one,ha,List.map_append,List.filterMap_append]
   congr 1
  rw [h1]
  cases hd:dueN a.2.job ht step with
  |none=>
   rw [sendL_none ha hd,←ih]
   rw [dueN_p] at hd
   rw [subO_none hd,Option.toList_none,List.append_nil]
  |some n=>
   have h2:=sendL_live (ht:=ht) (step:=step) hI.nd ha hd
   rw [←h2.2,←ih]
   rw [dueN_p] at hd
   obtain ⟨h3,_,_⟩:=dueP_lt hd
   have h4:=List.getElem?_eq_getElem h3
   rw [subO_some hd h4,Option.toList_some,applyS_snoc]
   show liveL _ a.2.job.key _=_
   rw [hI.key a ham]
theorem applyS_all {ord:List Key} {l:List (Key×EntB)} (hI:JtI ord l) (ht:UInt32) (step:Int):applyS l (subsP ht step (l.map fun p=>p.2.job.p))=l.map (sentE ht step):=by
 have:=applyS_take hI ht step l.length (Nat.le_refl _)
 rwa [List.take_length,sendL_all (Nat.le_refl _)] at this
theorem liveL_jti {ord:List Key} {l:List (Key×EntB)} (h:JtI ord l) (k:Key) (t:Int):JtI ord (liveL l k t):=by
 unfold liveL
 by_cases hE:liveE l k t=true
 ·rw [if_pos hE]
  refine h.map fun a ha=>?_
  have hr:=h.right a ha
  by_cases hk:a.1=k
  ·rw [if_pos hk]
   unfold liveE at hE
   rw [←hk,lku_nd h.nd ha] at hE
   have h2:=of_decide_eq_true hE
   exact ⟨rfl,rfl,rfl,rfl,rightJ_live hr h2.2.1 h2.2.2 (.inl h2.1)⟩
  ·rw [if_neg hk]
   exact ⟨rfl,rfl,rfl,rfl,hr⟩
 ·rw [if_neg hE]
  exact h
theorem applyS_jti {ord:List Key}:∀(S:List SubP) {l:List (Key×EntB)},JtI ord l→JtI ord (applyS l S)
 | [],_,h=>h
 |s::S,_,h=>applyS_jti S (liveL_jti h s.key s.tier)
structure ChnI (C:Chn):Prop where
 dep:1≤C.depth∧C.depth≤16
 len:(C.win.l.length:Int)≤C.depth+1
 le:C.win.l.length≤C.ht.toNat
 nd:∀c∈C.win.l,c.tx.l.Nodup∧c.tx.l.length≤32
theorem ChnI.at_ {w:World} {b:Nat} {C:Chn} (h:ChnI C) (hr:(star (chlRs b C)).ok w):ChAt w b C:=chlAt hr h.dep h.len h.le h.nd
abbrev allRs (bk:Nat) (X:Bk) (C:Chn) (m:Nat) (ord:Sl Key) (l:List (Key×EntB)):List Res:= [star (bjRs bk X m ord l),star (chlRs X.bc C)]
theorem bjRs_at {w:World} {bk m:Nat} {X:Bk} {ord:Sl Key} {l:List (Key×EntB)} (h:(star (bjRs bk X m ord l)).ok w):w.heap[bk]? =some (.cells X.c.toArray 121)∧JtAt w X.bj m ord l:=by
 have hp:=Hp.open h
 exact ⟨hp.cel_get (j:=0) rfl,jtAt (hp.get (j:=1) rfl)⟩
theorem all_halted {w0:World} {bk m:Nat} {X:Bk} {C:Chn} {ord:Sl Key} {l:List (Key×EntB)} (h:(star (allRs bk X C m ord l)).ok w0) (hh:X.halt≠0):Calls Tryz.prog 17 #[ptr bk] w0 fun e w'=>e= .returned (.slice none 0 0)∧Chg N0 w0 w':=by
 have hb:=(bjRs_at ((Hp.open h).get (j:=0) rfl)).1
 have hp:=Hp.start (S:=N0) w0
 refine calls_x (args:= [_]) tabOk Tryz.func17 Tryz.ntmps17 Tryz.results17 rfl (Nat.le_of_ble_eq_true rfl) ?_
 ((conv=>whnf);repeat' ((first|((with_reducible refine br_id ?_);((with_reducible refine br_ne (fun hx=>?_) (fun hx=>?_))<;>(try (exfalso;first|omega|contradiction))))|((with_reducible refine ld_id ?_);(apply ld_hs hp;(focus repeat' constructor);exact rfl))|((with_reducible refine al_id ?_);(refine al_cel hp ?_;clear hp;intro bb w hp))|((with_reducible refine cl_id ?_);((refine cl_eq ((bhalted_any (hp.chg.heap0 hb))) rfl rfl ?_;rintro e w ⟨rfl,hcc⟩;replace hp:=hp.call0 hcc;refine ⟨_,rfl,?_⟩))))<;>(conv=>whnf)))
 all_goals first
  |(exfalso;omega)
  |exact ps_val (v':= .slice none 0 0) rfl ⟨rfl,hp.chg⟩
theorem all_nil {w0:World}:Calls Tryz.prog 17 #[.pointer none] w0 fun e w'=>e= .returned (.slice none 0 0)∧Chg N0 w0 w':=by
 have hp:=Hp.start (S:=N0) w0
 have hh:∀w:World,Calls Tryz.prog 70 #[.pointer none] w fun e w'=>e= .returned (i64 7)∧Chg N0 w w':=fun w=>by
  have hp:=Hp.start (S:=N0) w
  have ha:∀w:World,Calls Tryz.prog 73 #[.pointer none] w fun e w'=>e= .returned (.bool true)∧Chg N0 w w':=fun w=>by
   have hp:=Hp.start (S:=N0) w
   refine calls_x (args:= [_]) tabOk Tryz.func73 Tryz.ntmps73 Tryz.results73 rfl (Nat.le_of_ble_eq_true rfl) ?_
   ((conv=>whnf);repeat' (((with_reducible refine br_id ?_);(with_reducible refine br_t ?_))<;>(conv=>whnf)))
   all_goals exact ps_val (v':= .bool true) rfl ⟨rfl,hp.chg⟩
  refine calls_x (args:= [_]) tabOk Tryz.func70 Tryz.ntmps70 Tryz.results70 rfl (Nat.le_of_ble_eq_true rfl) ?_
  ((conv=>whnf);repeat' ((first|((with_reducible refine br_id ?_);(with_reducible refine br_t ?_))|((with_reducible refine cl_id ?_);((refine cl_eq ((ha _)) rfl rfl ?_;rintro e w ⟨rfl,hcc⟩;replace hp:=hp.call0 hcc;refine ⟨_,rfl,?_⟩))))<;>(conv=>whnf)))
  all_goals exact ps_val (v':=i64 7) rfl ⟨rfl,hp.chg⟩
 refine calls_x (args:= [_]) tabOk Tryz.func17 Tryz.ntmps17 Tryz.results17 rfl (Nat.le_of_ble_eq_true rfl) ?_
 ((conv=>whnf);repeat' ((first|((with_reducible refine br_id ?_);((with_reducible refine br_ne (fun hx=>?_) (fun hx=>?_))<;>(try (exfalso;first|omega|contradiction))))|((with_reducible refine ld_id ?_);(apply ld_hs hp;(focus repeat' constructor);exact rfl))|((with_reducible refine al_id ?_);(refine al_cel hp ?_;clear hp;intro bb w hp))|((with_reducible refine cl_id ?_);((refine cl_eq ((hh _)) rfl rfl ?_;rintro e w ⟨rfl,hcc⟩;replace hp:=hp.call0 hcc;refine ⟨_,rfl,?_⟩))))<;>(conv=>whnf)))
 all_goals exact ps_val (v':= .slice none 0 0) rfl ⟨rfl,hp.chg⟩
theorem all_any {w0:World} {bk m:Nat} {X:Bk} {C:Chn} {ord:Sl Key} {l:List (Key×EntB)} (h:(star (allRs bk X C m ord l)).ok w0) (hC:ChnI C) (hI:JtI ord.l l) (hmany:l.length≤100000) (hst: -9223372036854775808≤X.cfg.stp∧X.cfg.stp≤9223372036854775807) (hh:X.halt=0):
  Calls Tryz.prog 17 #[ptr bk] w0 fun e w'=>∃O:Sl Sub,O.l.map Sub.p=subsP C.ht X.cfg.stp (l.map fun p=>p.2.job.p)∧e= .returned O.v∧Mut (star (allRs bk X C m ord l)) (star (allRs bk X C m ord (l.map (sentE C.ht X.cfg.stp))++ [star (subRs O)])) w0 w':=by
 have hp:=Hp.open h
 obtain ⟨xs,hxs⟩:∃xs,subsP C.ht X.cfg.stp (l.map fun p=>p.2.job.p)=xs:=⟨_,rfl⟩
 have hxl:xs.length≤100000:=by
  rw [←hxs]
  refine Nat.le_trans (List.length_filterMap_le _ _) ?_
  rw [List.length_map]
  exact hmany
 have hap:=applyS_all hI C.ht X.cfg.stp
 rw [hxs] at hap
 have u1:=Tryz.underlying60
 refine calls_x (args:= [_]) tabOk Tryz.func17 Tryz.ntmps17 Tryz.results17 rfl (Nat.le_of_ble_eq_true rfl) ?_
 ((conv=>whnf);repeat' ((first|((with_reducible refine br_id ?_);((with_reducible refine br_ne (fun hx=>?_) (fun hx=>?_))<;>(try (exfalso;first|omega|contradiction))))|((with_reducible refine ld_id ?_);(apply ld_hs hp;(focus repeat' constructor);exact rfl))|((with_reducible refine al_id ?_);(refine al_cel hp ?_;clear hp;intro bb w hp))|((with_reducible refine cl_id ?_);((refine cl_eq ((bhalted_any (bjRs_at (hp.get (j:=1) rfl)).1)) rfl rfl ?_;rintro e w ⟨rfl,hcc⟩;replace hp:=hp.call0 hcc;refine ⟨_,rfl,?_⟩))))<;>(conv=>whnf)))
 all_goals first
  |(exfalso;omega)
  |skip
 obtain ⟨b3,hb3⟩:∃x,x=bb:=⟨_,rfl⟩
 subst hb3
 obtain ⟨b1,hb1⟩:∃x,x=bb:=⟨_,rfl⟩
 subst hb1
 refine cl_eq (rdue_any bk) rfl rfl ?_
 rintro e w ⟨b4,rfl,hm⟩
 replace hp:=hp.add hm
 clear hm
 refine ⟨_,rfl,?_⟩
 ((conv=>whnf);repeat' ((first|((with_reducible refine br_id ?_);first|(with_reducible refine br_t ?_)|(with_reducible refine br_f ?_)|(with_reducible refine br_not ?_)|((with_reducible refine br_dec (fun hx=>?_) (fun hx=>?_))<;>(try (exfalso;first|omega|contradiction)))|((with_reducible refine br_eq (fun hx=>?_) (fun hx=>?_))<;>(try (exfalso;first|omega|contradiction)))|((with_reducible refine br_ne (fun hx=>?_) (fun hx=>?_))<;>(try (exfalso;first|omega|contradiction)))|((with_reducible refine br_s (fun hx=>?_) (fun hx=>?_))<;>(try (exfalso;first|omega|contradiction))))|((with_reducible refine ar_id ?_);first|(refine ar_i64 (by omega) ?_)|(refine ar_u32 (by omega) ?_)|(refine ar_u64 (by omega) ?_)|(refine ar_u8 (by omega) ?_))|((with_reducible refine cn_id ?_);first|(refine cn rfl ?_)|(refine cn ‹_› ?_)|(refine cn (by omega) ?_)|(refine cn (Chg.refl _ _) ?_))|((with_reducible refine ld_id ?_);first|(apply ld_hs hp;(focus repeat' constructor);exact rfl)|(refine ld_of ‹_› ?_))|((with_reducible refine ldn_id ?_);first|(apply lda_hs hp;(focus repeat' constructor);exact rfl)|(apply ldn_hs hp;(focus repeat' constructor);exact rfl;exact rfl))|((with_reducible refine al_id ?_);(refine al_cel hp ?_;clear hp;intro bb w hp))|((with_reducible refine st_id ?_);first|(apply sta_hs hp;(focus repeat' constructor);exact rfl;exact rfl;clear hp;intro w hp;(try dsimp only [List.set] at hp))|(apply st_hs hp;(focus repeat' constructor);exact rfl;exact rfl;clear hp;intro w hp;(try dsimp only [List.set] at hp)))|((with_reducible refine gen_id ?_);first|(apply gen_build;exact rfl;exact rfl)|(apply gen_len;exact rfl;exact rfl;assumption)|(apply gen_min;exact rfl;exact rfl;exact rfl)|(apply gen_max;exact rfl;exact rfl;exact rfl)|(apply gen_ix;exact rfl;exact rfl;exact rfl;exact rfl;omega)|(apply gen_ixa;exact rfl;exact rfl;exact rfl;exact rfl;omega))|((with_reducible refine dr_id ?_);first|(refine dr_auto tabOk (by kernel_rfl) (by decide+kernel) ?_;(try replace hp:=hp.drew))|(refine dr_autog tabOk (by kernel_rfl) (by decide+kernel) ?_;(try replace hp:=hp.drew))|(refine dr_autot tabOk (by kernel_rfl) (by decide+kernel) ?_;(try replace hp:=hp.drew)))|((with_reducible refine fk_id ?_);(refine fk_mk ?_ ?_))|((with_reducible refine bg_id ?_);first|((refine bg_hs hp 0 rfl ?_);clear hp;intro w hp;(try dsimp only [List.set] at hp))|((refine bg_hs hp 1 rfl ?_);clear hp;intro w hp;(try dsimp only [List.set] at hp))|((refine bg_hs hp 2 rfl ?_);clear hp;intro w hp;(try dsimp only [List.set] at hp))|((refine bg_hs hp 3 rfl ?_);clear hp;intro w hp;(try dsimp only [List.set] at hp))|((refine bg_hs hp 4 rfl ?_);clear hp;intro w hp;(try dsimp only [List.set] at hp))|((refine bg_hs hp 5 rfl ?_);clear hp;intro w hp;(try dsimp only [List.set] at hp)))|((with_reducible refine td_id ?_);first|((refine td_hs hp 0 rfl ?_);clear hp;intro w hp;(try dsimp only [List.set] at hp))|((refine td_hs hp 1 rfl ?_);clear hp;intro w hp;(try dsimp only [List.set] at hp))|((refine td_hs hp 2 rfl ?_);clear hp;intro w hp;(try dsimp only [List.set] at hp))|((refine td_hs hp 3 rfl ?_);clear hp;intro w hp;(try dsimp only [List.set] at hp))|((refine td_hs hp 4 rfl ?_);clear hp;intro w hp;(try dsimp only [List.set] at hp))|((refine td_hs hp 5 rfl ?_);clear hp;intro w hp;(try dsimp only [List.set] at hp))|((refine td_hs hp 6 rfl ?_);clear hp;intro w hp;(try dsimp only [List.set] at hp))|((refine td_hs hp 7 rfl ?_);clear hp;intro w hp;(try dsimp only [List.set] at hp)))|((with_reducible refine rd_id ?_);first|(apply rd_len;exact rfl;exact rfl;assumption)|(apply rd_ix;exact rfl;exact rfl;exact rfl;exact rfl;omega)))<;>(conv=>whnf)))
 have hp1:Hp (star (allRs bk X C m ord l)).dom w0 w ([cel b4 57 #[ptr bk]]++ [rowR 69 37 Sub.c (Sl.nil (α:=Sub)),cel b3 60 #[(Sl.nil (α:=Sub)).v],cel b1 57 #[ptr bk],star (bjRs bk X m ord l),star (chlRs X.bc C)]):=(hp.nilRow 69 37 Sub.c).pick [1,0,2,3,4,5] (by decide) rfl
 have hT:∀b,b=b4→b < w.heap.size∧∀r∈ [rowR 69 37 Sub.c (Sl.nil (α:=Sub)),cel b3 60 #[(Sl.nil (α:=Sub)).v],cel b1 57 #[ptr bk],star (bjRs bk X m ord l),star (chlRs X.bc C)],¬r.dom b:=fun b hb=>iter_at (T:=fun _=>False) hp1 (fun _ hf=>hf.elim) b (.inl ⟨_,List.mem_cons_self ..,cel_dom.2 hb⟩)
 obtain ⟨hbk,hjt⟩:=bjRs_at (hp1.get (j:=4) rfl)
 have hc4:=cel_ok.1 (hp1.get (j:=0) rfl)
 have hit:∀w1,Chg N0 w w1→IterG Tryz.prog (fun x=>x=b4) (keptB bk X C) 121 #[ptr b4] (fun s:Sub=> #[s.v]) stxR Sub.p xs w1:=fun w1 hc=>by
  rw [←hxs]
  exact due_iter (hc.heap0 hc4) (hc.heap0 hbk) (hjt.keep0 hc) hI hmany hst
 have hp2:=hp1.sub (List.sublist_append_right _ _)
 refine rf_iterG (es:=fun y=> [(10,Sub.v y)]) (rsI:=fun i q=>∃O:Sl Sub,O.l.map Sub.p=xs.take i∧q=rowR 69 37 Sub.c O::cel b3 60 #[O.v]::cel b1 57 #[ptr bk]::star (bjRs bk X m ord (applyS l (xs.take i)))::star (chlRs X.bc C)::O.l.map stxR) (rsX:=fun _ _=>False) hp2 (by kernel_rfl) (by kernel_rfl) rfl (enters tabOk (by kernel_rfl)) (fun _=>rfl) (fun _=>zip1 _ _) hT hit ⟨Sl.nil,rfl,rfl⟩ ?_ .ret ⟨_,rfl⟩ ?_ ?_ ?_
 ·rintro i _ L D o W ⟨O,_,rfl⟩ hok
  have hp:=Hp.open hok
  exact ⟨(bjRs_at (hp.get (j:=5) rfl)).1,hC.at_ (hp.get (j:=6) rfl)⟩
 ·clear hp hp1 hp2 hT hit hbk hjt hc4
  rintro i y L D o o' W1 _ ⟨O,hO,rfl⟩ hy hc hown hp
  obtain ⟨DD,hDD⟩:∃DD,(star [star (lpR L D o (rowR 69 37 Sub.c O::cel b3 60 #[O.v]::cel b1 57 #[ptr bk]::star (bjRs bk X m ord (applyS l (xs.take i)))::star (chlRs X.bc C)::O.l.map stxR)),stxR y]).dom=DD:=⟨_,rfl⟩
  rw [hDD] at hp hown ⊢
  have hxt:xs.take (i+1)=xs.take i++ [y.p]:=by rw [List.take_add_one,hy];rfl
  have hOl:O.l.length≤100000:=by
   have:=congrArg List.length hO
   rw [List.length_map,List.length_take] at this
   omega
  have hJI:=applyS_jti (xs.take i) hI
  have hnx:=applyS_snoc l (xs.take i) y.p
  rw [←hxt] at hnx
  replace hp:Hp DD W1 W1 (objR L o::objR D (.deferred (some []))::rowR 69 37 Sub.c O::cel b3 60 #[O.v]::cel b1 57 #[ptr bk]::star (bjRs bk X m ord (applyS l (xs.take i)))::star (chlRs X.bc C)::(O.l.map stxR++ [stxR y])):=hp
  generalize applyS l (xs.take i)=l1 at hp hJI hnx
  ((conv=>whnf);repeat' ((first|((with_reducible refine cn_id ?_);(refine cn rfl ?_))|((with_reducible refine ld_id ?_);(apply ld_hs hp;(focus repeat' constructor);exact rfl))|((with_reducible refine ldn_id ?_);(apply ldn_hs hp;(focus repeat' constructor);exact rfl;exact rfl))|((with_reducible refine al_id ?_);(refine al_cel hp ?_;clear hp;intro bb w hp))|((with_reducible refine st_id ?_);(apply sta_hs hp;(focus repeat' constructor);exact rfl;exact rfl;clear hp;intro w hp;(try dsimp only [List.set] at hp)))|((with_reducible refine bg_id ?_);((refine bg_hs hp 1 rfl ?_);clear hp;intro w hp;(try dsimp only [List.set] at hp))))<;>(conv=>whnf)))
  refine cl_eq (blive_any (hp.get (j:=6) rfl) hJI y.key y.tier) rfl rfl ?_
  rintro e w ⟨rfl,hm⟩
  replace hp:=hp.via (j:=6) rfl hm
  clear hm
  dsimp only [List.set] at hp
  rw [show liveL l1 y.key y.tier=applyS l (xs.take (i+1)) from hnx.symm] at hp
  refine ⟨_,rfl,?_⟩
  ((conv=>whnf);repeat' ((first|((with_reducible refine cn_id ?_);(refine cn rfl ?_))|((with_reducible refine ld_id ?_);(apply ld_hs hp;(focus repeat' constructor);exact rfl))|((with_reducible refine ldn_id ?_);(apply lda_hs hp;(focus repeat' constructor);exact rfl))|((with_reducible refine st_id ?_);(apply sta_hs hp;(focus repeat' constructor);exact rfl;exact rfl;clear hp;intro w hp;(try dsimp only [List.set] at hp)))|((with_reducible refine gen_id ?_);first|((refine gen_bs rfl hp el_sub Sub.c [y] [Sub.v y] rfl rfl rfl (fun _ hh=>by simp at hh;subst hh;rfl) (by omega) ?_);clear hp;intro br w hp)|((refine gen_app (s:=O) rfl hp 4 rfl el_sub rfl ⟨some ⟨br,0,none⟩,1, [y]⟩ rfl (hp.row (j:=0) rfl) (fun _ _=>rfl) sub_one (by simp only [List.length_cons,List.length_nil];omega) (by simp only [maxLen,List.length_cons,List.length_nil];omega) ?_);clear hp;intro A2 c2 w hp;dsimp only [List.set] at hp)))<;>(conv=>whnf)))
  refine bo ⟨_,⟨⟨A2,c2,O.l++ [y]⟩,?_,rfl⟩,?_⟩
  ·show (O.l++ [y]).map _=_
   rw [List.map_append,hO,hxt]
   rfl
  ·show Hp _ _ _ (lpR L D o' (_::_::_::_::_::(O.l++ [y]).map stxR))
   rw [List.map_append]
   exact hp.tail.tail
 ·clear hp hp1 hp2 hT hit hbk hjt hc4
  rintro L D o W1 _ ⟨O,hO,rfl⟩ hp
  rw [List.take_length] at hO hp
  rw [hap] at hp
  ((conv=>whnf);repeat' ((first|((with_reducible refine ld_id ?_);(apply ld_hs hp;(focus repeat' constructor);exact rfl))|((with_reducible refine td_id ?_);((refine td_hs hp 1 rfl ?_);clear hp;intro w hp;(try dsimp only [List.set] at hp))))<;>(conv=>whnf)))
  refine ps_val (v':=O.v) rfl ⟨O,hO.trans hxs.symm,rfl,?_⟩
  have h1:=hp.sub (rs':=rowR 69 37 Sub.c O::star (bjRs bk X m ord (l.map (sentE C.ht X.cfg.stp)))::star (chlRs X.bc C)::O.l.map stxR) (.cons _ (.cons _ (.cons_cons _ (.cons _ (.cons _ (.refl _))))))
  have h2:Hp (star (allRs bk X C m ord l)).dom w0 _ (subRs O++ [star (bjRs bk X m ord (l.map (sentE C.ht X.cfg.stp))),star (chlRs X.bc C)]):=h1.perm (.cons _ (List.perm_append_comm (l₁:= [_,_])))
  have h3:=h2.fold (subRs O).length
  rw [List.take_left,List.drop_left] at h3
  exact (h3.perm (rs':= [_,_,_]) ((List.Perm.swap ..).trans (.cons _ (.swap ..)))).shut (.refl _)
 ·rintro i L D o W1 _ hi hf
  exact hf.elim
end Go.Proofs.YteabebmlclgakaaGreat
/- Rested: a state at rest: the program's, in new memory; the document's. Of states that are few. -/
namespace Go.Proofs.YteabebmlclgakaaGreat
open Go.RowKit
set_option maxRecDepth 100000
set_option maxHeartbeats 4000000
def Sta.z:Sta:=⟨⟨0,0,0,0,0,0⟩,0,0,0,Sl.nil,Sl.nil,Sl.nil,Sl.nil⟩
theorem half_set {α:Type} {f:α→α} {l:List α} {i:Nat} {y:α} (h:l[i]? =some y):((l.take i).map f++l.drop i).set i (f y)=(l.take (i+1)).map f++l.drop (i+1)∧((l.take i).map f++l.drop i)[i]? =some y:=by
 have hlt:i < l.length:=(List.getElem?_eq_some_iff.1 h).1
 have hl:((l.take i).map f).length=i:=by rw [List.length_map,List.length_take];omega
 have hd:l.drop i=y::l.drop (i+1):=by
  rw [List.drop_eq_getElem_cons hlt]
  rw [List.getElem?_eq_getElem hlt] at h
  rw [Option.some.inj h]
 constructor
 ·rw [List.set_append_right _ _ (by omega),hl,Nat.sub_self,hd,List.set_cons_zero,List.take_add_one,h,List.map_append]
  simp
 ·rw [List.getElem?_append_right (by omega),hl,Nat.sub_self,hd]
  rfl
end Go.Proofs.YteabebmlclgakaaGreat
/- Send2: what is sent out of a state, by the document; what an evicted transaction makes of a list of jobs. Of states that are few. -/
namespace Go.Proofs.YteabebmlclgakaaGreat
open Go.RowKit
set_option maxRecDepth 100000
set_option maxHeartbeats 4000000
def sentB (ht:UInt32) (step:Int) (j:Job):Job:=match dueN j ht step with
 |none=>j
 |some n=>{j with live:=n}
theorem sentB_p (ht:UInt32) (step:Int) (j:Job):(sentB ht step j).p=sentJ ht step j.p:=by
 unfold sentB sentJ
 rw [dueN_p]
 cases dueP j.p ht step<;>rfl
theorem sentB_pay (ht:UInt32) (step:Int) (j:Job):(sentB ht step j).pay=j.pay:=by
 unfold sentB
 cases dueN j ht step<;>rfl
theorem subs_next {ht:UInt32} {step:Int} {J:List Job} {i:Nat} {y:Job} (hy:J[i]? =some y):subsP ht step ((J.take (i+1)).map Job.p)=subsP ht step ((J.take i).map Job.p)++(subO ht step y.p).toList:=by
 unfold subsP
 rw [List.take_add_one,hy,List.map_append,List.filterMap_append]
 congr 1
theorem rall34_halted {w0:World} {x:Sta} (hh:x.halt≠0):Calls Tryz.prog 22 #[x.v] w0 fun e w'=>e= .returned (.tuple #[x.v, .slice none 0 0])∧Chg N0 w0 w':=by
 have hp:=Hp.start (S:=N0) w0
 refine calls_x (args:= [_]) tabOk Tryz.func22 Tryz.ntmps22 Tryz.results22 rfl (Nat.le_of_ble_eq_true rfl) ?_
 ((conv=>whnf);repeat' ((first|((with_reducible refine br_id ?_);((with_reducible refine br_ne (fun hx=>?_) (fun hx=>?_))<;>(try (exfalso;first|omega|contradiction))))|((with_reducible refine cn_id ?_);(refine cn rfl ?_))|((with_reducible refine ld_id ?_);(apply ld_hs hp;(focus repeat' constructor);exact rfl))|((with_reducible refine ldn_id ?_);(apply lda_hs hp;(focus repeat' constructor);exact rfl))|((with_reducible refine al_id ?_);(refine al_cel hp ?_;clear hp;intro bb w hp))|((with_reducible refine st_id ?_);(apply sta_hs hp;(focus repeat' constructor);exact rfl;exact rfl;clear hp;intro w hp;(try dsimp only [List.set] at hp))))<;>(conv=>whnf)))
 all_goals first
  |(exfalso;omega)
  |exact ps_val (v':= .tuple #[x.v, .slice none 0 0]) rfl ⟨rfl,hp.chg⟩
theorem rall34_any {B:Nat} {w0:World} {x:Sta} (hs:StaAt B w0 x) (hf:FewI x) (hst: -9223372036854775808≤x.cfg.stp∧x.cfg.stp≤9223372036854775807) (hh:x.halt=0):Calls Tryz.prog 22 #[x.v] w0 fun e w'=>∃(J:Sl Job) (O:Sl Sub),J.l=x.jobs.l.map (sentB x.ht x.cfg.stp)∧O.l.map Sub.p=subsP x.ht x.cfg.stp (x.jobs.l.map Job.p)∧e= .returned (.tuple #[Sta.v {x with jobs:=J},O.v])∧Made (star [rowR 49 38 Job.c J,star (subRs O)]) w0 w':=by
 have hp:=Hp.start (S:=N0) w0
 have hB:∀b,N0 b→B≤b:=fun _ hh=>hh.elim
 have u4:=Tryz.underlying29
 have us:=Tryz.underlying60
 have hn:=hf.jobs
 refine calls_x (args:= [_]) tabOk Tryz.func22 Tryz.ntmps22 Tryz.results22 rfl (Nat.le_of_ble_eq_true rfl) ?_
 ((conv=>whnf);repeat' ((first|((with_reducible refine br_id ?_);((with_reducible refine br_ne (fun hx=>?_) (fun hx=>?_))<;>(try (exfalso;first|omega|contradiction))))|((with_reducible refine ld_id ?_);(apply ld_hs hp;(focus repeat' constructor);exact rfl))|((with_reducible refine al_id ?_);(refine al_cel hp ?_;clear hp;intro bb w hp))|((with_reducible refine gen_id ?_);first|((refine gen_bs rfl hp el_job Job.c [] [] rfl rfl rfl (fun _ hh=>by cases hh) (by omega) ?_);clear hp;intro br w hp)|((refine gen_app (s:=⟨some ⟨br,0,none⟩,0, []⟩) rfl hp 0 rfl el_job rfl x.jobs rfl (hs.jobs.keep hp.chg hB) (fun _ _=>rfl) job_one (by simp only [List.length_nil];omega) (by simp only [maxLen,List.length_nil];omega) ?_);clear hp;intro A2 c2 w hp;dsimp only [List.set] at hp)))<;>(conv=>whnf)))
 all_goals first
  |(exfalso;omega)
  |skip
 obtain ⟨b2,hb2⟩:∃b,b=bb:=⟨_,rfl⟩
 subst hb2
 obtain ⟨b1,hb1⟩:∃b,b=bb:=⟨_,rfl⟩
 subst hb1
 have hp0:Hp N0 w0 w (rowR 49 38 Job.c ⟨A2,c2,(x.jobs.l.take 0).map (sentB x.ht x.cfg.stp)++x.jobs.l.drop 0⟩::cel b2 31 (Sta.c Sta.z).toArray::cel b1 31 x.c.toArray::subRs Sl.nil):=(hp.nilRow 69 37 Sub.c).pick [1,2,3,0] (by decide) rfl
 clear hp
 refine lp_inv (α:=Nat×Sl Sub) (fun a=> [(1,ptr b1),(2,ptr b2),(4,a.2.v),(5, .slice A2 x.jobs.l.length c2),(6,i64 a.1)]) (fun a w=>a.1≤x.jobs.l.length∧a.2.l.map Sub.p=subsP x.ht x.cfg.stp ((x.jobs.l.take a.1).map Job.p)∧Hp N0 w0 w (rowR 49 38 Job.c ⟨A2,c2,(x.jobs.l.take a.1).map (sentB x.ht x.cfg.stp)++x.jobs.l.drop a.1⟩::cel b2 31 (Sta.c Sta.z).toArray::cel b1 31 x.c.toArray::subRs a.2)) (fun a=>x.jobs.l.length - a.1) (0,Sl.nil) (by (repeat' (first|exact trivial|(refine ⟨rfl,?_⟩)))) ⟨by omega,rfl,hp0⟩ ?_
 clear hp0
 rintro ⟨i,O⟩ e0 w ⟨hi,hO,hp⟩
 dsimp only at hi hO hp ⊢
 have hOl:O.l.length≤i:=by
  have h1:=congrArg List.length hO
  have h2:=List.length_filterMap_le (subO x.ht x.cfg.stp) ((x.jobs.l.take i).map Job.p)
  unfold subsP at h1
  rw [List.length_map] at h1
  rw [List.length_map,List.length_take] at h2
  omega
 rcases Nat.lt_or_ge i x.jobs.l.length with hlt|hge
 ·have hyy:=List.getElem?_eq_getElem hlt
  obtain ⟨h1,h2⟩:=half_set (f:=sentB x.ht x.cfg.stp) hyy
  generalize x.jobs.l[i]=y at hyy h1 h2
  have hym:=List.mem_of_getElem? hyy
  have hyf:=hf.pay y hym
  have hya:=hs.pay y hym
  have hnx:=subs_next (ht:=x.ht) (step:=x.cfg.stp) hyy
  have hll:((x.jobs.l.take i).map (sentB x.ht x.cfg.stp)++x.jobs.l.drop i).length=x.jobs.l.length:=by simp;omega
  obtain ⟨b,o,z,hA,hbb,hrow,hzz⟩:=(hp.row (j:=0) rfl).has (i:=i) (by show i < ((x.jobs.l.take i).map (sentB x.ht x.cfg.stp)++x.jobs.l.drop i).length;omega)
  have hA':A2=some ⟨b,o,none⟩:=hA
  clear hrow hA
  cases hd:dueP y.p x.ht x.cfg.stp with
  |none=>
   rw [subO_none hd,Option.toList_none,List.append_nil] at hnx
   have hsb:sentB x.ht x.cfg.stp y=y:=by unfold sentB;rw [dueN_p,hd]
   rw [hsb,set_sameR h2] at h1
   have hdn:=fun {w:World} (hc:Chg N0 w0 w)=>(dueRef_any (hya.keep hc hB) hyf x.ht x.cfg.stp hst).mono fun _ _ hh=>duePost_no hh hd
   ((conv=>whnf);repeat' ((first|((with_reducible refine br_id ?_);((with_reducible refine br_dec (fun hx=>?_) (fun hx=>?_))<;>(try (exfalso;first|omega|contradiction))))|((with_reducible refine gen_id ?_);(apply gen_len;exact rfl;exact rfl;assumption)))<;>(conv=>whnf)))
   refine dr_cut (fun e w=>∃(b7:Nat) (e0:Nat→Value),e=eat [(1,ptr b1),(2,ptr b2),(4,O.v),(5, .slice A2 x.jobs.l.length c2),(6,i64 i),(7,ptr b7),(8, .bool false)] ⟨e0, []⟩∧Hp N0 w0 w (rowR 49 38 Job.c ⟨A2,c2,(x.jobs.l.take i).map (sentB x.ht x.cfg.stp)++x.jobs.l.drop i⟩::cel b2 31 (Sta.c Sta.z).toArray::cel b1 31 x.c.toArray::subRs O)) ?_ ?_
   ·refine dr_autos [] 1000 tabOk (by kernel_rfl) (by decide+kernel) ?_
    replace hp:=hp.drew
    ((conv=>whnf);repeat' ((first|((with_reducible refine cn_id ?_);first|(refine cn rfl ?_)|(refine cn ‹_› ?_))|((with_reducible refine ld_id ?_);(apply ld_hs hp;(focus repeat' constructor);exact rfl))|((with_reducible refine ldn_id ?_);((refine ldn_ownx hp 0 rfl hA' i rfl h2 rfl ?_)))|((with_reducible refine al_id ?_);(refine al_cel hp ?_;clear hp;intro bb w hp))|((with_reducible refine st_id ?_);(apply sta_hs hp;(focus repeat' constructor);exact rfl;exact rfl;clear hp;intro w hp;(try dsimp only [List.set] at hp)))|((with_reducible refine fk_id ?_);(refine fk_mk ?_ ?_))|((with_reducible refine cl_id ?_);((refine cl_eq ((hdn hp.chg)) rfl rfl ?_;rintro e w ⟨rfl,hcc⟩;replace hp:=hp.call0 hcc;refine ⟨_,rfl,?_⟩)))|((with_reducible refine rd_id ?_);((refine rd_ixs rfl rfl hA' rfl rfl (by omega) ?_))))<;>(conv=>whnf)))
    all_goals exact ⟨_,_,eat_holds (by (repeat' (first|exact trivial|(refine ⟨rfl,?_⟩)))),hp.tail⟩
   clear hp
   rintro e w ⟨b7,e0,rfl,hp⟩
   ((conv=>whnf);repeat' ((first|((with_reducible refine br_id ?_);(with_reducible refine br_f ?_))|((with_reducible refine ar_id ?_);(refine ar_i64 (by omega) ?_)))<;>(conv=>whnf)))
   exact lp_next (i+1,O) (by show x.jobs.l.length - (i+1) < x.jobs.l.length - i;omega) (by (repeat' (first|exact trivial|(refine ⟨rfl,?_⟩)))) ⟨by show i+1≤_;omega,by show O.l.map Sub.p=subsP x.ht x.cfg.stp ((x.jobs.l.take (i+1)).map Job.p);rw [hnx];exact hO,by show Hp N0 w0 w (rowR 49 38 Job.c ⟨A2,c2,(x.jobs.l.take (i+1)).map (sentB x.ht x.cfg.stp)++x.jobs.l.drop (i+1)⟩::_);rw [←h1];exact hp⟩
  |some n=>
   have hdy:=fun {w:World} (hc:Chg N0 w0 w)=>(dueRef_any (hya.keep hc hB) hyf x.ht x.cfg.stp hst).mono fun _ _ hh=>duePost_yes hh hd
   ((conv=>whnf);repeat' ((first|((with_reducible refine br_id ?_);((with_reducible refine br_dec (fun hx=>?_) (fun hx=>?_))<;>(try (exfalso;first|omega|contradiction))))|((with_reducible refine gen_id ?_);(apply gen_len;exact rfl;exact rfl;assumption)))<;>(conv=>whnf)))
   refine dr_cut (fun e w=>∃(z:Sub) (b7:Nat) (e0:Nat→Value),subO x.ht x.cfg.stp y.p=some z.p∧z.tier=n∧e=eat [(1,ptr b1),(2,ptr b2),(4,O.v),(5, .slice A2 x.jobs.l.length c2),(6,i64 i),(7,ptr b7),(8, .bool true)] ⟨e0, []⟩∧Hp N0 w0 w (stxR z::cel b7 69 z.c.toArray::rowR 49 38 Job.c ⟨A2,c2,(x.jobs.l.take i).map (sentB x.ht x.cfg.stp)++x.jobs.l.drop i⟩::cel b2 31 (Sta.c Sta.z).toArray::cel b1 31 x.c.toArray::subRs O)) ?_ ?_
   ·refine dr_autos [] 1000 tabOk (by kernel_rfl) (by decide+kernel) ?_
    replace hp:=hp.drew
    ((conv=>whnf);repeat' ((first|((with_reducible refine cn_id ?_);first|(refine cn rfl ?_)|(refine cn ‹_› ?_))|((with_reducible refine ld_id ?_);(apply ld_hs hp;(focus repeat' constructor);exact rfl))|((with_reducible refine ldn_id ?_);((refine ldn_ownx hp 0 rfl hA' i rfl h2 rfl ?_)))|((with_reducible refine al_id ?_);(refine al_cel hp ?_;clear hp;intro bb w hp))|((with_reducible refine st_id ?_);(apply sta_hs hp;(focus repeat' constructor);exact rfl;exact rfl;clear hp;intro w hp;(try dsimp only [List.set] at hp)))|((with_reducible refine fk_id ?_);(refine fk_mk ?_ ?_))|((with_reducible refine cl_id ?_);((refine cl_eq (hdy hp.chg) rfl rfl ?_;rintro e w ⟨z,hz,hzt,rfl,hm⟩;replace hp:=hp.add hm;replace hm:=hm.chg;refine ⟨_,rfl,?_⟩)))|((with_reducible refine rd_id ?_);((refine rd_ixs rfl rfl hA' rfl rfl (by omega) ?_))))<;>(conv=>whnf)))
    all_goals first
     |exact ⟨z,_,_,hz,hzt,eat_holds (by (repeat' (first|exact trivial|(refine ⟨rfl,?_⟩)))),hp⟩
     |exact ⟨z,_,_,hz,hzt,eat_holds (by (repeat' (first|exact trivial|(refine ⟨rfl,?_⟩)))),hp.perm (.swap ..)⟩
   clear hp
   rintro e w ⟨z,b7,e0,hso,hzt,rfl,hp⟩
   rw [hso] at hnx
   have hsb:sentB x.ht x.cfg.stp y={y with live:=z.tier}:=by unfold sentB;rw [dueN_p,hd,hzt]
   rw [hsb] at h1
   ((conv=>whnf);repeat' ((first|((with_reducible refine br_id ?_);(with_reducible refine br_t ?_))|((with_reducible refine ar_id ?_);(refine ar_i64 (by omega) ?_))|((with_reducible refine cn_id ?_);(refine cn rfl ?_))|((with_reducible refine ld_id ?_);(apply ld_hs hp;(focus repeat' constructor);exact rfl))|((with_reducible refine ldn_id ?_);(apply lda_hs hp;(focus repeat' constructor);exact rfl))|((with_reducible refine st_id ?_);((refine st_own hp 3 rfl hA' i 36 rfl h2 {y with live:=z.tier} rfl (by simp) rfl ?_);clear hp;intro w hp;dsimp only [List.set] at hp))|((with_reducible refine gen_id ?_);first|((refine gen_bs rfl hp el_sub Sub.c [z] [Sub.v z] rfl rfl rfl (fun _ hh=>by simp at hh;subst hh;rfl) (by omega) ?_);clear hp;intro br w hp)|((refine gen_app (s:=O) rfl hp 6 rfl el_sub rfl ⟨some ⟨br,0,none⟩,1, [z]⟩ rfl (hp.row (j:=0) rfl) (fun _ _=>rfl) sub_one (by simp only [List.length_cons,List.length_nil];omega) (by simp only [maxLen,List.length_cons,List.length_nil];omega) ?_);clear hp;intro A3 c3 w hp;dsimp only [List.set] at hp)|((refine gen_ixs rfl rfl hA' rfl rfl (by omega) ?_))))<;>(conv=>whnf)))
   rw [h1] at hp
   refine lp_next (i+1,⟨A3,c3,O.l++ [z]⟩) (by show x.jobs.l.length - (i+1) < x.jobs.l.length - i;omega) (by (repeat' (first|exact trivial|(refine ⟨rfl,?_⟩)))) ⟨by show i+1≤_;omega,?_,?_⟩
   ·show (O.l++ [z]).map Sub.p=_
    rw [hnx,List.map_append,hO]
    rfl
   ·have h5:=hp.tail.sub (rs':=stxR z::_::_::_::_::O.l.map stxR) (.cons_cons _ (.cons _ (.refl _)))
    have h6:=h5.perm (List.perm_append_singleton _ _).symm
    show Hp N0 w0 w (_::_::_::_::(O.l++ [z]).map stxR)
    rw [List.map_append]
    exact h6
 ·have hJ:(x.jobs.l.take i).map (sentB x.ht x.cfg.stp)++x.jobs.l.drop i=x.jobs.l.map (sentB x.ht x.cfg.stp):=by rw [List.take_of_length_le hge,List.drop_of_length_le hge,List.append_nil]
  rw [hJ] at hp
  rw [List.take_of_length_le hge] at hO
  have hll:(x.jobs.l.map (sentB x.ht x.cfg.stp)).length=x.jobs.l.length:=by simp
  ((conv=>whnf);repeat' ((first|((with_reducible refine br_id ?_);((with_reducible refine br_dec (fun hx=>?_) (fun hx=>?_))<;>(try (exfalso;first|omega|contradiction))))|((with_reducible refine cn_id ?_);(refine cn rfl ?_))|((with_reducible refine ldn_id ?_);(apply lda_hs hp;(focus repeat' constructor);exact rfl))|((with_reducible refine st_id ?_);first|(apply sta_hs hp;(focus repeat' constructor);exact rfl;exact rfl;clear hp;intro w hp;(try dsimp only [List.set] at hp))|(apply st_hs hp;(focus repeat' constructor);exact rfl;exact rfl;clear hp;intro w hp;(try dsimp only [List.set] at hp)))|((with_reducible refine gen_id ?_);(apply gen_len;exact rfl;exact rfl;assumption)))<;>(conv=>whnf)))
  refine ps_val (v':= .tuple #[Sta.v {x with jobs:=⟨A2,c2,x.jobs.l.map (sentB x.ht x.cfg.stp)⟩},O.v]) ?_ ⟨⟨A2,c2,x.jobs.l.map (sentB x.ht x.cfg.stp)⟩,O,rfl,hO,rfl,?_⟩
  ·unfold Sta.v Sl.v
   rw [hll]
   rfl
  ·have h1:=hp.sub (rs':=rowR 49 38 Job.c ⟨A2,c2,x.jobs.l.map (sentB x.ht x.cfg.stp)⟩::subRs O) (.cons_cons _ (.cons _ (.cons _ (.refl _))))
   have h2:=(h1.perm (List.perm_append_singleton _ (subRs O)).symm).fold (subRs O).length
   rw [List.take_left,List.drop_left] at h2
   exact (h2.perm (.swap ..)).made (.refl _)
end Go.Proofs.YteabebmlclgakaaGreat
/- Send3: what an evicted transaction makes of a list of jobs, by the document; what goes out behind it. Of states that are few. -/
namespace Go.Proofs.YteabebmlclgakaaGreat
open Go.RowKit
set_option maxRecDepth 100000
set_option maxHeartbeats 4000000
end Go.Proofs.YteabebmlclgakaaGreat
