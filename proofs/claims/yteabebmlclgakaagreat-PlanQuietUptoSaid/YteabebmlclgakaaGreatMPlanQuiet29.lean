/- MPlanQuiet29: Plan3, Plan4, Rested, Send2, Shelf4, Shelf5, Shelf6, Shelf7. -/
import Derived.Test.YteabebmlclgakaaGreatMPlanQuiet16
import Derived.Test.YteabebmlclgakaaGreatMPlanQuiet18
import Derived.Test.YteabebmlclgakaaGreatMPlanQuiet19
import Derived.Test.YteabebmlclgakaaGreatMPlanQuiet25
import Derived.Test.YteabebmlclgakaaGreatMPlanQuietsBook4
import Derived.Test.YteabebmlclgakaaGreatMPlanQuiet15
import Derived.Test.YteabebmlclgakaaGreatMPlanQuiet26
import Derived.Test.YteabebmlclgakaaGreatMPlanQuiet12
import Derived.Test.YteabebmlclgakaaGreatMPlanQuiet13
set_option linter.unusedSimpArgs false
set_option linter.unusedVariables false
/- Plan3: package plan: all that goes out, in its order. Of states of a bounded bulk. -/
namespace Go.Proofs.YteabebmlclgakaaGreat
open Go.RowKit
set_option maxRecDepth 100000
set_option maxHeartbeats 4000000
theorem sorted_any {B:Nat} {w0:World} {ls:Sl (Sl Stp)} (h:SlAt B w0 slL 1 ls) (hs:∀s∈ls.l,SlAt B w0 Stp.c 39 s) (hn:(ls.l.flatMap (·.l)).length≤1000000):Calls Tryz.prog 160 #[ls.v,cmpV] w0 fun e w'=>∃r:Sl Stp,r.l.Perm (ls.l.flatMap (·.l))∧Srt cmpS r.l∧e= .returned r.v∧Made (rowR 144 39 Stp.c r) w0 w':=by
 have hp:=Hp.start (S:=N0) w0
 have hB:∀b,N0 b→B≤b:=fun _ hh=>hh.elim
 refine calls_x (args:= [_,_]) tabOk Tryz.func160 Tryz.ntmps160 Tryz.results160 rfl (Nat.le_of_ble_eq_true rfl) ?_
 ((conv=>whnf);repeat' ((first|((with_reducible refine br_id ?_);first|(with_reducible refine br_t ?_)|(with_reducible refine br_f ?_)|(with_reducible refine br_not ?_)|((with_reducible refine br_dec (fun hx=>?_) (fun hx=>?_))<;>(try (exfalso;first|omega|contradiction)))|((with_reducible refine br_eq (fun hx=>?_) (fun hx=>?_))<;>(try (exfalso;first|omega|contradiction)))|((with_reducible refine br_ne (fun hx=>?_) (fun hx=>?_))<;>(try (exfalso;first|omega|contradiction)))|((with_reducible refine br_s (fun hx=>?_) (fun hx=>?_))<;>(try (exfalso;first|omega|contradiction))))|((with_reducible refine ar_id ?_);first|(refine ar_i64 (by omega) ?_)|(refine ar_u32 (by omega) ?_)|(refine ar_u64 (by omega) ?_)|(refine ar_u8 (by omega) ?_))|((with_reducible refine cn_id ?_);first|(refine cn rfl ?_)|(refine cn ‹_› ?_)|(refine cn (by omega) ?_)|(refine cn (Chg.refl _ _) ?_))|((with_reducible refine ld_id ?_);first|(apply ld_hs hp;(focus repeat' constructor);exact rfl)|(refine ld_of ‹_› ?_))|((with_reducible refine ldn_id ?_);first|(apply lda_hs hp;(focus repeat' constructor);exact rfl)|(apply ldn_hs hp;(focus repeat' constructor);exact rfl;exact rfl))|((with_reducible refine al_id ?_);(refine al_cel hp ?_;clear hp;intro bb w hp))|((with_reducible refine st_id ?_);first|(apply sta_hs hp;(focus repeat' constructor);exact rfl;exact rfl;clear hp;intro w hp;(try dsimp only [List.set] at hp))|(apply st_hs hp;(focus repeat' constructor);exact rfl;exact rfl;clear hp;intro w hp;(try dsimp only [List.set] at hp)))|((with_reducible refine gen_id ?_);first|(apply gen_build;exact rfl;exact rfl)|(apply gen_len;exact rfl;exact rfl;assumption)|(apply gen_min;exact rfl;exact rfl;exact rfl)|(apply gen_max;exact rfl;exact rfl;exact rfl)|(apply gen_ix;exact rfl;exact rfl;exact rfl;exact rfl;omega)|(apply gen_ixa;exact rfl;exact rfl;exact rfl;exact rfl;omega))|((with_reducible refine dr_id ?_);first|(refine dr_auto tabOk (by kernel_rfl) (by decide+kernel) ?_;(try replace hp:=hp.drew))|(refine dr_autog tabOk (by kernel_rfl) (by decide+kernel) ?_;(try replace hp:=hp.drew))|(refine dr_autot tabOk (by kernel_rfl) (by decide+kernel) ?_;(try replace hp:=hp.drew)))|((with_reducible refine fk_id ?_);(refine fk_mk ?_ ?_))|((with_reducible refine rd_id ?_);first|(apply rd_len;exact rfl;exact rfl;assumption)|(apply rd_ix;exact rfl;exact rfl;exact rfl;exact rfl;omega)))<;>(conv=>whnf)))
 refine cl_eq (concat_any (h.keep hp.chg hB) (fun s hm=>(hs s hm).keep hp.chg hB) hn) rfl rfl ?_
 rintro e w ⟨r,hr,rfl,hm⟩
 replace hp:=hp.add hm
 clear hm
 refine ⟨_,rfl,?_⟩
 have hrl:r.l.length≤1000000:=by rw [hr];exact hn
 ((conv=>whnf);repeat' ((first|((with_reducible refine br_id ?_);first|(with_reducible refine br_t ?_)|(with_reducible refine br_f ?_)|(with_reducible refine br_not ?_)|((with_reducible refine br_dec (fun hx=>?_) (fun hx=>?_))<;>(try (exfalso;first|omega|contradiction)))|((with_reducible refine br_eq (fun hx=>?_) (fun hx=>?_))<;>(try (exfalso;first|omega|contradiction)))|((with_reducible refine br_ne (fun hx=>?_) (fun hx=>?_))<;>(try (exfalso;first|omega|contradiction)))|((with_reducible refine br_s (fun hx=>?_) (fun hx=>?_))<;>(try (exfalso;first|omega|contradiction))))|((with_reducible refine ar_id ?_);first|(refine ar_i64 (by omega) ?_)|(refine ar_u32 (by omega) ?_)|(refine ar_u64 (by omega) ?_)|(refine ar_u8 (by omega) ?_))|((with_reducible refine cn_id ?_);first|(refine cn rfl ?_)|(refine cn ‹_› ?_)|(refine cn (by omega) ?_)|(refine cn (Chg.refl _ _) ?_))|((with_reducible refine ld_id ?_);first|(apply ld_hs hp;(focus repeat' constructor);exact rfl)|(refine ld_of ‹_› ?_))|((with_reducible refine ldn_id ?_);first|(apply lda_hs hp;(focus repeat' constructor);exact rfl)|(apply ldn_hs hp;(focus repeat' constructor);exact rfl;exact rfl))|((with_reducible refine al_id ?_);(refine al_cel hp ?_;clear hp;intro bb w hp))|((with_reducible refine st_id ?_);first|(apply sta_hs hp;(focus repeat' constructor);exact rfl;exact rfl;clear hp;intro w hp;(try dsimp only [List.set] at hp))|(apply st_hs hp;(focus repeat' constructor);exact rfl;exact rfl;clear hp;intro w hp;(try dsimp only [List.set] at hp)))|((with_reducible refine gen_id ?_);first|(apply gen_build;exact rfl;exact rfl)|(apply gen_len;exact rfl;exact rfl;assumption)|(apply gen_min;exact rfl;exact rfl;exact rfl)|(apply gen_max;exact rfl;exact rfl;exact rfl)|(apply gen_ix;exact rfl;exact rfl;exact rfl;exact rfl;omega)|(apply gen_ixa;exact rfl;exact rfl;exact rfl;exact rfl;omega))|((with_reducible refine dr_id ?_);first|(refine dr_auto tabOk (by kernel_rfl) (by decide+kernel) ?_;(try replace hp:=hp.drew))|(refine dr_autog tabOk (by kernel_rfl) (by decide+kernel) ?_;(try replace hp:=hp.drew))|(refine dr_autot tabOk (by kernel_rfl) (by decide+kernel) ?_;(try replace hp:=hp.drew)))|((with_reducible refine fk_id ?_);(refine fk_mk ?_ ?_))|((with_reducible refine rd_id ?_);first|(apply rd_len;exact rfl;exact rfl;assumption)|(apply rd_ix;exact rfl;exact rfl;exact rfl;exact rfl;omega)))<;>(conv=>whnf)))
 refine cl_eq (ssf_any (hp.get (j:=0) rfl) hrl) rfl rfl ?_
 rintro e w ⟨rfl,l',p1,s1,hm⟩
 replace hp:=hp.via (j:=0) rfl hm
 clear hm
 dsimp only [List.set] at hp
 refine ⟨_,rfl,?_⟩
 have hl':=p1.length_eq
 rw [hr] at p1
 ((conv=>whnf);repeat' ((first|((with_reducible refine br_id ?_);first|(with_reducible refine br_t ?_)|(with_reducible refine br_f ?_)|(with_reducible refine br_not ?_)|((with_reducible refine br_dec (fun hx=>?_) (fun hx=>?_))<;>(try (exfalso;first|omega|contradiction)))|((with_reducible refine br_eq (fun hx=>?_) (fun hx=>?_))<;>(try (exfalso;first|omega|contradiction)))|((with_reducible refine br_ne (fun hx=>?_) (fun hx=>?_))<;>(try (exfalso;first|omega|contradiction)))|((with_reducible refine br_s (fun hx=>?_) (fun hx=>?_))<;>(try (exfalso;first|omega|contradiction))))|((with_reducible refine ar_id ?_);first|(refine ar_i64 (by omega) ?_)|(refine ar_u32 (by omega) ?_)|(refine ar_u64 (by omega) ?_)|(refine ar_u8 (by omega) ?_))|((with_reducible refine cn_id ?_);first|(refine cn rfl ?_)|(refine cn ‹_› ?_)|(refine cn (by omega) ?_)|(refine cn (Chg.refl _ _) ?_))|((with_reducible refine ld_id ?_);first|(apply ld_hs hp;(focus repeat' constructor);exact rfl)|(refine ld_of ‹_› ?_))|((with_reducible refine ldn_id ?_);first|(apply lda_hs hp;(focus repeat' constructor);exact rfl)|(apply ldn_hs hp;(focus repeat' constructor);exact rfl;exact rfl))|((with_reducible refine al_id ?_);(refine al_cel hp ?_;clear hp;intro bb w hp))|((with_reducible refine st_id ?_);first|(apply sta_hs hp;(focus repeat' constructor);exact rfl;exact rfl;clear hp;intro w hp;(try dsimp only [List.set] at hp))|(apply st_hs hp;(focus repeat' constructor);exact rfl;exact rfl;clear hp;intro w hp;(try dsimp only [List.set] at hp)))|((with_reducible refine gen_id ?_);first|(apply gen_build;exact rfl;exact rfl)|(apply gen_len;exact rfl;exact rfl;assumption)|(apply gen_min;exact rfl;exact rfl;exact rfl)|(apply gen_max;exact rfl;exact rfl;exact rfl)|(apply gen_ix;exact rfl;exact rfl;exact rfl;exact rfl;omega)|(apply gen_ixa;exact rfl;exact rfl;exact rfl;exact rfl;omega))|((with_reducible refine dr_id ?_);first|(refine dr_auto tabOk (by kernel_rfl) (by decide+kernel) ?_;(try replace hp:=hp.drew))|(refine dr_autog tabOk (by kernel_rfl) (by decide+kernel) ?_;(try replace hp:=hp.drew))|(refine dr_autot tabOk (by kernel_rfl) (by decide+kernel) ?_;(try replace hp:=hp.drew)))|((with_reducible refine fk_id ?_);(refine fk_mk ?_ ?_))|((with_reducible refine rd_id ?_);first|(apply rd_len;exact rfl;exact rfl;assumption)|(apply rd_ix;exact rfl;exact rfl;exact rfl;exact rfl;omega)))<;>(conv=>whnf)))
 exact ps_val (v':=r.v) rfl ⟨⟨r.A,r.c,l'⟩,p1,s1,by show Ending.returned r.v= .returned (.slice r.A l'.length r.c);rw [hl'],hp.made1 (j:=0) rfl⟩
abbrev stlR (s:Sl Stp):Res:=star (stpRs s)
abbrev stxP (x:Stp):Res:=stxR x.sub
theorem Hp.steps {S:Nat→Prop} {w0 w:World}:∀{L:List (Sl Stp)} {rs:List Res},Hp S w0 w (L.map stlR++rs)→Hp S w0 w ((L.flatMap (·.l)).map stxP++rs)
 | [],rs,h=>h
 |s::L,rs,h=>by
  have h1:Hp S w0 w (stpRs s++(L.map stlR++rs)):=Hp.unfold h
  have h2:Hp S w0 w (s.l.map stxP++(L.map stlR++rs)):=h1.tail
  have h3:Hp S w0 w (L.map stlR++(s.l.map stxP++rs)):=h2.perm (by
   rw [←List.append_assoc,←List.append_assoc]
   exact List.Perm.append_right rs List.perm_append_comm)
  have h4:=Hp.steps h3
  rw [List.flatMap_cons,List.map_append]
  refine h4.perm ?_
  rw [←List.append_assoc]
  exact List.Perm.append_right rs List.perm_append_comm
def okX (x:Sta):Bool:=rightS x && decide (x.halt=0)
def planX (x:Sta):List StpP:=if okX x=true then planA x.cfg.stp x.ht (x.jobs.l.map Job.p) else []
theorem placed_at {l:List JobP} {i:Nat} {j:JobP} (h:l[i]? =some j):(placed l)[i]? =some ((i:Int),j):=by
 unfold placed
 rw [List.getElem?_map,List.getElem?_zipIdx,h]
 simp
theorem placed_len (l:List JobP):(placed l).length=l.length:=by
 unfold placed
 rw [List.length_map,List.length_zipIdx]
def stepsT (far:Int) (ht:UInt32) (l:List JobP) (i:Nat):List StpP:=((placed l).take i).flatMap fun p=>stepsP p.1 far p.2 ht
theorem stepsT_next {far:Int} {ht:UInt32} {l:List JobP} {i:Nat} {j:JobP} (h:l[i]? =some j):stepsT far ht l (i+1)=stepsT far ht l i++stepsP i far j ht:=by
 unfold stepsT
 rw [List.take_add_one,placed_at h,List.flatMap_append]
 simp
theorem stepsT_all (far:Int) (ht:UInt32) (l:List JobP):stepsT far ht l l.length=stepsA far ht l:=by
 unfold stepsT stepsA
 rw [List.take_of_length_le (by rw [placed_len];exact Nat.le_refl _)]
theorem flat_len20 {L:List (Sl Stp)} (h:∀s∈L,s.l.length≤20):(L.flatMap (·.l)).length≤20*L.length:=by
 induction L with
 |nil=>simp
 |cons s L ih=>
  rw [List.flatMap_cons,List.length_append,List.length_cons]
  have h1:=h s (List.mem_cons_self ..)
  have h2:=ih fun t ht=>h t (List.mem_cons_of_mem _ ht)
  omega
theorem sls_one {l:List (Sl Stp)}:∀x∈l,∀u∈slL x,u.oneCell'=true:=fun x _ u hu=>by
 rw [List.mem_singleton] at hu
 subst hu
 rfl
theorem pall_any {B:Nat} {w0:World} {x:Sta} (hs:StaAt B w0 x) (hBw:B≤w0.heap.size) (hf:FewI x) (hlv:∀j∈x.jobs.l, -9223372036854775808≤j.live∧j.live≤9223372036854775807) (hst: -9223372036854775808≤x.cfg.stp∧x.cfg.stp≤9223372036854775807):Calls Tryz.prog 91 #[x.v] w0 fun e w'=>∃r:Sl Stp,r.l.map Stp.p=planX x∧r.l.length≤12000∧e= .returned (.tuple #[r.v, .bool (okX x)])∧Made (star (stpRs r)) w0 w':=by
 have hp:=Hp.start (S:=N0) w0
 have hB:∀b,N0 b→B≤b:=fun _ hh=>hh.elim
 have u4:=Tryz.underlying29
 have us:=Tryz.underlying141
 have u2:=Tryz.underlying226
 have hn:=hf.jobs
 have hrt:=fun {w:World} (hc:Chg N0 w0 w)=>bright_any (hs.keep hc hB) (Nat.le_trans hBw hc.size) hf hlv
 unfold planX
 obtain ⟨ok,hok⟩:∃q,okX x=q:=⟨_,rfl⟩
 rw [hok]
 unfold okX at hok
 obtain ⟨rt,hrs⟩:∃q,rightS x=q:=⟨_,rfl⟩
 rw [hrs] at hok hrt
 by_cases hgo:rt=true∧x.halt=0
 ·obtain ⟨rfl,hh⟩:=hgo
  rw [hh] at hok
  obtain rfl:true=ok:=hok
  rw [if_pos rfl]
  refine calls_x (args:= [_]) tabOk Tryz.func91 Tryz.ntmps91 Tryz.results91 rfl (Nat.le_of_ble_eq_true rfl) ?_
  ((conv=>whnf);repeat' ((first|((with_reducible refine br_id ?_);first|(with_reducible refine br_t ?_)|(with_reducible refine br_f ?_)|(with_reducible refine br_not ?_)|((with_reducible refine br_ne (fun hx=>?_) (fun hx=>?_))<;>(try (exfalso;first|omega|contradiction))))|((with_reducible refine ld_id ?_);(apply ld_hs hp;(focus repeat' constructor);exact rfl))|((with_reducible refine ldn_id ?_);(apply lda_hs hp;(focus repeat' constructor);exact rfl))|((with_reducible refine al_id ?_);(refine al_cel hp ?_;clear hp;intro bb w hp))|((with_reducible refine gen_id ?_);(apply gen_len;exact rfl;exact rfl;assumption))|((with_reducible refine cl_id ?_);((refine cl_eq ((hrt hp.chg)) rfl rfl ?_;rintro e w ⟨rfl,hcc⟩;replace hp:=hp.call0 hcc;refine ⟨_,rfl,?_⟩))))<;>(conv=>whnf)))
  obtain ⟨b1,hb1⟩:∃b,b=bb:=⟨_,rfl⟩
  subst hb1
  have hp0:Hp N0 w0 w (cel b1 31 x.c.toArray::rowR 141 1 slL Sl.nil::(Sl.nil:Sl (Sl Stp)).l.map stlR):=(hp.nilRow 141 1 slL).pick [1,0] (by decide) rfl
  clear hp
  refine lp_inv (α:=Nat×Sl (Sl Stp)) (fun a=> [(1,ptr b1),(4,a.2.v),(16,x.jobs.v),(17,i64 x.jobs.l.length),(18,i64 a.1)]) (fun a w=>a.1≤x.jobs.l.length∧a.2.l.length=a.1∧(a.2.l.flatMap (·.l)).map Stp.p=stepsT x.cfg.stp x.ht (x.jobs.l.map Job.p) a.1∧(∀s∈a.2.l,s.l.length≤20)∧Hp N0 w0 w (cel b1 31 x.c.toArray::rowR 141 1 slL a.2::a.2.l.map stlR)) (fun a=>x.jobs.l.length - a.1) (0,Sl.nil) (by (repeat' (first|exact trivial|(refine ⟨rfl,?_⟩)))) ⟨by omega,rfl,rfl,fun s hs=>(by cases hs),hp0⟩ ?_
  clear hp0
  rintro ⟨i,ls⟩ e0 w ⟨hi,hll,hT,h20,hp⟩
  dsimp only at hi hll hT h20 hp ⊢
  rcases Nat.lt_or_ge i x.jobs.l.length with hlt|hge
  ·obtain ⟨bo,o,j,hA,hbb,hrow,hjj⟩:=hs.jobs.has hlt
   have hjm:=List.mem_of_getElem? hjj
   have hnx:=stepsT_next (far:=x.cfg.stp) (ht:=x.ht) (l:=x.jobs.l.map Job.p) (i:=i) (j:=j.p) (by rw [List.getElem?_map,hjj];rfl)
   rw [←hT] at hnx
   have hstp:=fun {w:World} (hc:Chg N0 w0 w)=>steps_any ((hs.pay j hjm).keep hc hB) (hf.pay j hjm) (i:Int) x.ht x.cfg.stp hst
   ((conv=>whnf);repeat' ((first|((with_reducible refine br_id ?_);((with_reducible refine br_dec (fun hx=>?_) (fun hx=>?_))<;>(try (exfalso;first|omega|contradiction))))|((with_reducible refine cn_id ?_);(refine cn rfl ?_))|((with_reducible refine ld_id ?_);(apply ld_hs hp;(focus repeat' constructor);exact rfl))|((with_reducible refine ldn_id ?_);first|((refine ldn_rowx hp hB ‹_› ‹_› _ rfl ‹_› rfl ?_))|(apply lda_hs hp;(focus repeat' constructor);exact rfl))|((with_reducible refine al_id ?_);(refine al_cel hp ?_;clear hp;intro bb w hp))|((with_reducible refine st_id ?_);(apply sta_hs hp;(focus repeat' constructor);exact rfl;exact rfl;clear hp;intro w hp;(try dsimp only [List.set] at hp)))|((with_reducible refine gen_id ?_);((refine gen_ixs rfl rfl ‹_› rfl rfl (by omega) ?_))))<;>(conv=>whnf)))
   refine cl_eq (hstp hp.chg) rfl rfl ?_
   rintro e w ⟨s,hsp,hsl,rfl,hm⟩
   replace hp:=hp.add hm
   clear hm
   refine ⟨_,rfl,?_⟩
   ((conv=>whnf);repeat' ((first|((with_reducible refine ar_id ?_);((refine ar_n (i+1) (by omega) (by omega) ?_)))|((with_reducible refine gen_id ?_);first|((refine gen_bs rfl hp el_sls slL [s] [s.v] rfl rfl rfl (fun _ hh=>by simp at hh;subst hh;rfl) (by omega) ?_);clear hp;intro br w hp)|((refine gen_app (s:=ls) rfl hp 4 rfl el_sls rfl ⟨some ⟨br,0,none⟩,1, [s]⟩ rfl (hp.row (j:=0) rfl) (fun _ _=>rfl) sls_one (by simp only [List.length_cons,List.length_nil];omega) (by simp only [maxLen,List.length_cons,List.length_nil];omega) ?_);clear hp;intro A3 c3 w hp;dsimp only [List.set] at hp)))<;>(conv=>whnf)))
   refine lp_next (i+1,⟨A3,c3,ls.l++ [s]⟩) (by show x.jobs.l.length - (i+1) < x.jobs.l.length - i;omega) (by (repeat' (first|exact trivial|(refine ⟨rfl,?_⟩)))) ⟨by show i+1≤_;omega,by show (ls.l++ [s]).length=i+1;rw [List.length_append,hll];rfl,?_,?_,?_⟩
   ·show ((ls.l++ [s]).flatMap (·.l)).map Stp.p=_
    rw [hnx,List.flatMap_append,List.map_append,←hsp]
    simp
   ·intro t ht
    rcases List.mem_append.1 (show t∈ls.l++ [s] from ht) with h1|h1
    ·exact h20 t h1
    ·obtain rfl:=List.mem_singleton.1 h1
     exact hsl
   ·have h5:=hp.tail.sub (rs':=stlR s::_::_::ls.l.map stlR) (.cons_cons _ (.cons _ (.refl _)))
    have h6:=h5.perm (List.perm_append_singleton _ _).symm
    show Hp N0 w0 w (_::_::(ls.l++ [s]).map stlR)
    rw [List.map_append]
    exact h6
  ·obtain rfl:i=x.jobs.l.length:=by omega
   rw [show x.jobs.l.length=(x.jobs.l.map Job.p).length by rw [List.length_map],stepsT_all] at hT
   have hfl:=flat_len20 h20
   rw [hll] at hfl
   have hsat:∀s∈ls.l,SlAt w.heap.size w Stp.c 39 s:=fun s hs=>rowR_at (List.mem_cons_self .. |> fun hh=>(Hp.open (hp.ok (stlR s) (List.mem_cons_of_mem _ (List.mem_cons_of_mem _ (List.mem_map_of_mem hs))))).ok _ hh)
   ((conv=>whnf);repeat' (((with_reducible refine br_id ?_);((with_reducible refine br_dec (fun hx=>?_) (fun hx=>?_))<;>(try (exfalso;first|omega|contradiction))))<;>(conv=>whnf)))
   refine cl_eq (sorted_any (hp.row (j:=1) rfl) hsat (by omega)) rfl rfl ?_
   rintro e w ⟨r,p1,s1,rfl,hm⟩
   replace hp:=hp.add hm
   clear hm
   refine ⟨_,rfl,?_⟩
   have hrl:=p1.length_eq
   have hpl:=plan_sorted ((p1.map Stp.p).trans (by rw [hT])) s1
   have h7:Hp N0 w0 w (ls.l.map stlR++ [rowR 144 39 Stp.c r]):=(hp.sub (rs':=rowR 144 39 Stp.c r::ls.l.map stlR) (.cons_cons _ (.cons _ (.cons _ (.refl _))))).perm (List.perm_append_singleton _ _).symm
   have h8:=Hp.steps h7
   have h9:Hp N0 w0 w (stpRs r):=h8.perm ((List.perm_append_singleton _ _).trans (.cons _ (p1.map stxP).symm))
   ((conv=>whnf);repeat' ((first|((with_reducible refine br_id ?_);first|(with_reducible refine br_t ?_)|(with_reducible refine br_f ?_)|(with_reducible refine br_not ?_)|((with_reducible refine br_dec (fun hx=>?_) (fun hx=>?_))<;>(try (exfalso;first|omega|contradiction)))|((with_reducible refine br_eq (fun hx=>?_) (fun hx=>?_))<;>(try (exfalso;first|omega|contradiction)))|((with_reducible refine br_ne (fun hx=>?_) (fun hx=>?_))<;>(try (exfalso;first|omega|contradiction)))|((with_reducible refine br_s (fun hx=>?_) (fun hx=>?_))<;>(try (exfalso;first|omega|contradiction))))|((with_reducible refine ar_id ?_);first|(refine ar_i64 (by omega) ?_)|(refine ar_u32 (by omega) ?_)|(refine ar_u64 (by omega) ?_)|(refine ar_u8 (by omega) ?_))|((with_reducible refine cn_id ?_);first|(refine cn rfl ?_)|(refine cn ‹_› ?_)|(refine cn (by omega) ?_)|(refine cn (Chg.refl _ _) ?_))|((with_reducible refine ld_id ?_);first|(apply ld_hs hp;(focus repeat' constructor);exact rfl)|(refine ld_of ‹_› ?_))|((with_reducible refine ldn_id ?_);first|(apply lda_hs hp;(focus repeat' constructor);exact rfl)|(apply ldn_hs hp;(focus repeat' constructor);exact rfl;exact rfl))|((with_reducible refine al_id ?_);(refine al_cel hp ?_;clear hp;intro bb w hp))|((with_reducible refine st_id ?_);first|(apply sta_hs hp;(focus repeat' constructor);exact rfl;exact rfl;clear hp;intro w hp;(try dsimp only [List.set] at hp))|(apply st_hs hp;(focus repeat' constructor);exact rfl;exact rfl;clear hp;intro w hp;(try dsimp only [List.set] at hp)))|((with_reducible refine gen_id ?_);first|(apply gen_build;exact rfl;exact rfl)|(apply gen_len;exact rfl;exact rfl;assumption)|(apply gen_min;exact rfl;exact rfl;exact rfl)|(apply gen_max;exact rfl;exact rfl;exact rfl)|(apply gen_ix;exact rfl;exact rfl;exact rfl;exact rfl;omega)|(apply gen_ixa;exact rfl;exact rfl;exact rfl;exact rfl;omega))|((with_reducible refine dr_id ?_);first|(refine dr_auto tabOk (by kernel_rfl) (by decide+kernel) ?_;(try replace hp:=hp.drew))|(refine dr_autog tabOk (by kernel_rfl) (by decide+kernel) ?_;(try replace hp:=hp.drew))|(refine dr_autot tabOk (by kernel_rfl) (by decide+kernel) ?_;(try replace hp:=hp.drew)))|((with_reducible refine fk_id ?_);(refine fk_mk ?_ ?_))|((with_reducible refine rd_id ?_);first|(apply rd_len;exact rfl;exact rfl;assumption)|(apply rd_ix;exact rfl;exact rfl;exact rfl;exact rfl;omega)))<;>(conv=>whnf)))
   exact ps_of ⟨r,hpl,by omega,rfl,h9.made (.refl _)⟩
 ·have hokf:ok=false:=by
   rw [←hok]
   cases rt with
   |false=>rfl
   |true=>exact (Bool.true_and _).trans (decide_eq_false fun h=>hgo ⟨rfl,h⟩)
  rw [hokf,if_neg (by decide)]
  have hres:∀{w:World} {rs:List Res},Hp N0 w0 w rs→Made (star (stpRs Sl.nil)) w0 w:=fun hp=>((hp.nilRow 144 39 Stp.c).pick (rs':=stpRs Sl.nil) [0] (by simp) rfl).made (.refl _)
  cases rt with
  |false=>
   refine calls_x (args:= [_]) tabOk Tryz.func91 Tryz.ntmps91 Tryz.results91 rfl (Nat.le_of_ble_eq_true rfl) ?_
   ((conv=>whnf);repeat' ((first|((with_reducible refine br_id ?_);first|(with_reducible refine br_t ?_)|(with_reducible refine br_f ?_)|(with_reducible refine br_not ?_))|((with_reducible refine ldn_id ?_);(apply lda_hs hp;(focus repeat' constructor);exact rfl))|((with_reducible refine al_id ?_);(refine al_cel hp ?_;clear hp;intro bb w hp))|((with_reducible refine cl_id ?_);((refine cl_eq ((hrt hp.chg)) rfl rfl ?_;rintro e w ⟨rfl,hcc⟩;replace hp:=hp.call0 hcc;refine ⟨_,rfl,?_⟩))))<;>(conv=>whnf)))
   all_goals first
    |(exfalso;omega)
    |exact ps_val (v':= .tuple #[.slice none 0 0, .bool false]) rfl ⟨Sl.nil,rfl,Nat.zero_le _,rfl,hres hp⟩
  |true=>
   have hh:x.halt≠0:=fun h=>hgo ⟨rfl,h⟩
   refine calls_x (args:= [_]) tabOk Tryz.func91 Tryz.ntmps91 Tryz.results91 rfl (Nat.le_of_ble_eq_true rfl) ?_
   ((conv=>whnf);repeat' ((first|((with_reducible refine br_id ?_);first|(with_reducible refine br_t ?_)|(with_reducible refine br_f ?_)|(with_reducible refine br_not ?_)|((with_reducible refine br_ne (fun hx=>?_) (fun hx=>?_))<;>(try (exfalso;first|omega|contradiction))))|((with_reducible refine ld_id ?_);(apply ld_hs hp;(focus repeat' constructor);exact rfl))|((with_reducible refine ldn_id ?_);(apply lda_hs hp;(focus repeat' constructor);exact rfl))|((with_reducible refine al_id ?_);(refine al_cel hp ?_;clear hp;intro bb w hp))|((with_reducible refine cl_id ?_);((refine cl_eq ((hrt hp.chg)) rfl rfl ?_;rintro e w ⟨rfl,hcc⟩;replace hp:=hp.call0 hcc;refine ⟨_,rfl,?_⟩))))<;>(conv=>whnf)))
   all_goals first
    |(exfalso;omega)
    |exact ps_val (v':= .tuple #[.slice none 0 0, .bool false]) rfl ⟨Sl.nil,rfl,Nat.zero_le _,rfl,hres hp⟩
end Go.Proofs.YteabebmlclgakaaGreat
/- Plan4: package plan: what goes out by so many blocks, what it costs, behind which height nothing goes out. Of states of a bounded bulk. -/
namespace Go.Proofs.YteabebmlclgakaaGreat
open Go.RowKit
set_option maxRecDepth 100000
set_option maxHeartbeats 4000000
def anyR:Res where
 dom _:=False
 ok _:=True
 lt _ _ _ h:=h.elim
 loc _ _ _ _:=trivial
theorem Hp.lost {S:Nat→Prop} {w0 w w':World} {rs:List Res} {r:Res} (h:Hp S w0 w (r::rs)) (hc:Chg r.dom w w'):Hp S w0 w' rs:=
 (h.mut (j:=0) (r':=anyR) rfl hc trivial fun _ hb=>hb.elim).tail
def planY (x:Sta) (n:Nat):List StpP:=if okX x=true then planB x.cfg.stp x.ht (x.jobs.l.map Job.p) n else []
theorem planY_cut (x:Sta) (n:Nat):∃r,planX x=planY x n++r∧(∀s∈planY x n,s.sub.height.toNat≤x.ht.toNat+n)∧∀s∈r,x.ht.toNat+n < s.sub.height.toNat:=by
 unfold planX planY
 by_cases h:okX x=true
 ·rw [if_pos h,if_pos h]
  exact planA_cut _ _ _ _
 ·rw [if_neg h,if_neg h]
  exact ⟨[],rfl,(fun _ h=>by cases h),(fun _ h=>by cases h)⟩
theorem planY_len {x:Sta} {n last:Nat} {R:List Stp} (hR:R.map Stp.p=planX x) (hl:last=x.ht.toNat+n):R.length - (R.filter fun s=> !decide (s.sub.height.toNat≤last)).length=(planY x n).length∧(planY x n).length≤R.length∧(R.filter fun s=> !decide (s.sub.height.toNat≤last)).length≤R.length∧(R.take (planY x n).length).map Stp.p=planY x n:=by
 obtain ⟨r,h1,h2,h3⟩:=planY_cut x n
 rw [←hl] at h2 h3
 have hlen:R.length=(planY x n).length+r.length:=by rw [←List.length_append,←h1,←hR,List.length_map]
 have hf:(R.filter fun s=> !decide (s.sub.height.toNat≤last)).length=r.length:=by
  have h4:((R.map Stp.p).filter fun s=> !decide (s.sub.height.toNat≤last)).length=(R.filter fun s=> !decide (s.sub.height.toNat≤last)).length:=by
   rw [List.filter_map,List.length_map]
   rfl
  rw [←h4,hR,h1,List.filter_append,List.filter_eq_nil_iff.2 fun s hs=>by rw [decide_eq_true (h2 s hs)];simp,List.nil_append,List.filter_eq_self.2 fun s hs=>by rw [decide_eq_false (by have:=h3 s hs;omega)];rfl]
 refine ⟨by omega,by omega,List.length_filter_le _ _,?_⟩
 rw [List.map_take,hR,h1,List.take_left]
theorem uc_any {w:World} {bl last:Nat} (h:w.cell? ⟨bl,0,none⟩=some (.int .u64 last)) (x:Stp):Calls Tryz.prog 158 #[x.v,ptr bl] w fun e w'=>e= .returned (.bool (decide (x.sub.height.toNat≤last)))∧Chg N0 w w':=by
 have hp:=Hp.start (S:=N0) w
 have hx:=x.sub.height.toNat_lt
 have hd:decide ((x.sub.height.toNat:Int)≤(last:Int))=decide (x.sub.height.toNat≤last):=by rw [Bool.eq_iff_iff];simp
 refine calls_x (args:= [_,_]) tabOk Tryz.func158 Tryz.ntmps158 Tryz.results158 rfl (Nat.le_of_ble_eq_true rfl) ?_
 ((conv=>whnf);repeat' ((first|((with_reducible refine ar_id ?_);(refine ar_u64 (by omega) ?_))|((with_reducible refine ld_id ?_);first|((refine ld_of (hp.chg.cell0 h) ?_))|(apply ld_hs hp;(focus repeat' constructor);exact rfl))|((with_reducible refine al_id ?_);(refine al_cel hp ?_;clear hp;intro bb w hp)))<;>(conv=>whnf)))
 all_goals exact ps_val (v':= .bool (decide ((x.sub.height.toNat:Int)≤(last:Int)))) rfl ⟨by rw [hd],hp.chg⟩
section
variable {B : Nat} {w0 : World} {x : Sta}
theorem upto_any (hs:StaAt B w0 x) (hBw:B≤w0.heap.size) (hf:FewI x) (hlv:∀j∈x.jobs.l, -9223372036854775808≤j.live∧j.live≤9223372036854775807) (hst: -9223372036854775808≤x.cfg.stp∧x.cfg.stp≤9223372036854775807) (n:Int) (hn: -9223372036854775808≤n∧n≤9223372036854775807):Calls Tryz.prog 90 #[x.v,i64 n] w0 fun e w'=>∃(r:Sl Stp) (k:Nat),k≤r.l.length∧r.l.length≤12000∧(r.l.take k).map Stp.p=planY x n.toNat∧e= .returned (.slice r.A k r.c)∧Made (star (stpRs r)) w0 w':=by
 have hp:=Hp.start (S:=N0) w0
 have hB:∀b,N0 b→B≤b:=fun _ hh=>hh.elim
 have us:=Tryz.underlying141
 have hht:=x.ht.toNat_lt
 refine calls_x (args:= [_,_]) tabOk Tryz.func90 Tryz.ntmps90 Tryz.results90 rfl (Nat.le_of_ble_eq_true rfl) ?_
 ((conv=>whnf);repeat' ((first|((with_reducible refine ldn_id ?_);(apply lda_hs hp;(focus repeat' constructor);exact rfl))|((with_reducible refine al_id ?_);(refine al_cel hp ?_;clear hp;intro bb w hp)))<;>(conv=>whnf)))
 refine cl_eq (pall_any (hs.keep hp.chg hB) (Nat.le_trans hBw hp.chg.size) hf hlv hst) rfl rfl ?_
 rintro e w ⟨r,hR,hrl,rfl,hm⟩
 replace hp:=hp.add hm
 clear hm
 refine ⟨_,rfl,?_⟩
 obtain ⟨last,hla⟩:∃last,last=x.ht.toNat+n.toNat:=⟨_,rfl⟩
 obtain ⟨g1,g2,g3,g4⟩:=planY_len hR hla
 have ar_l:∀{f:Int→Prop},f (last:Int)→Ar .u64 ((x.ht.toNat:Int)+max n 0) f:=fun {f} hff=>ar_u64 (by omega) (by rw [show (x.ht.toNat:Int)+max n 0=(last:Int) by omega];exact hff)
 ((conv=>whnf);repeat' ((first|((with_reducible refine ar_id ?_);first|((refine ar_l ?_))|(refine ar_u64 (by omega) ?_))|((with_reducible refine cn_id ?_);(refine cn rfl ?_))|((with_reducible refine ld_id ?_);(apply ld_hs hp;(focus repeat' constructor);exact rfl))|((with_reducible refine al_id ?_);(refine al_cel hp ?_;clear hp;intro bb w hp))|((with_reducible refine st_id ?_);(apply sta_hs hp;(focus repeat' constructor);exact rfl;exact rfl;clear hp;intro w hp;(try dsimp only [List.set] at hp)))|((with_reducible refine gen_id ?_);first|(apply gen_len;exact rfl;exact rfl;assumption)|(apply gen_max;exact rfl;exact rfl;exact rfl)))<;>(conv=>whnf)))
 obtain ⟨bl,hbl⟩:∃b,b=bb:=⟨_,rfl⟩
 subst hbl
 refine cl_eq (sclp_any (rowR_at ((Hp.open (hp.get (j:=1) rfl)).get (j:=0) rfl)) (by omega)) rfl rfl ?_
 rintro e w ⟨q,hq,rfl,hm⟩
 replace hp:=hp.add hm
 clear hm
 refine ⟨_,rfl,?_⟩
 rw [←hq] at g1 g3
 have hcell:∀{W:World},Chg (rowR 144 39 Stp.c q).dom w W→W.cell? ⟨bl,0,none⟩=some (.int .u64 last):=fun {W} hc=>by
  have hok:w.heap[bl]? =some (.cells #[.int .u64 last] 85):=cel_ok.1 (hp.get (j:=1) rfl)
  refine hc.cell (by simp only [World.cell?,hok];rfl) fun hd=>?_
  exact (List.pairwise_cons.1 hp.sep).1 _ (List.mem_cons_self ..) bl hd (cel_dom.2 rfl)
 ((conv=>whnf);repeat' (((with_reducible refine gen_id ?_);((refine gen_mkf rfl rfl ?_)))<;>(conv=>whnf)))
 refine cl_eq (del_any (p:=fun s=>decide (s.sub.height.toNat≤last)) (bl:=bl) (hp.get (j:=0) rfl) (by rw [hq];omega) fun x {W} hc=>uc_any (hcell hc) x) rfl rfl ?_
 rintro e w ⟨A,c,rfl,hcg⟩
 replace hp:=hp.lost hcg
 refine ⟨_,rfl,?_⟩
 rw [hq] at g1 g3
 have hrow:(rowR 144 39 Stp.c r).ok w:=(Hp.open (hp.get (j:=1) rfl)).get (j:=0) rfl
 have hres:Made (star (stpRs r)) w0 w:=hp.made1 (j:=1) rfl
 have hle:=(rowR_at hrow).le
 rw [hq]
 obtain ⟨k,hk⟩:∃k,(planY x n.toNat).length=k:=⟨_,rfl⟩
 obtain ⟨m,hm⟩:∃m,(r.l.filter fun s=> !decide (s.sub.height.toNat≤last)).length=m:=⟨_,rfl⟩
 rw [hm] at g1 g3 ⊢
 rw [hk] at g1 g2 g4
 rcases (rowR_ok.1 hrow).1.2 with ⟨h1,h2⟩|⟨g,cap,cur,h1,_,_,h4,_⟩
 ·obtain rfl:k=0:=by omega
  ((conv=>whnf);repeat' ((first|((with_reducible refine ar_id ?_);((refine ar_n (0) (by omega) (by omega) ?_)))|((with_reducible refine gen_id ?_);first|((refine gen_cutz rfl el_stp h1 (k:= .i64) rfl ?_))|(apply gen_len;exact rfl;exact rfl;assumption)))<;>(conv=>whnf)))
  injection h1 with hA _ hc
  exact ps_val (v':= .slice none 0 0) rfl ⟨r,0,Nat.zero_le _,hrl,g4,by rw [hA,hc],hres⟩
 ·injection h1 with hA _ hc
  ((conv=>whnf);repeat' ((first|((with_reducible refine ar_id ?_);((refine ar_n (k) (by omega) (by omega) ?_)))|((with_reducible refine gen_id ?_);first|((refine gen_front rfl el_stp (show r.v= .slice (some ⟨g,0,none⟩) r.l.length r.c by rw [Sl.v,hA]) hle rfl k rfl g2 ?_))|(apply gen_len;exact rfl;exact rfl;assumption)))<;>(conv=>whnf)))
  exact ps_val (v':= .slice (some ⟨g,0,none⟩) k r.c) rfl ⟨r,k,g2,hrl,g4,by rw [hA],hres⟩
theorem pof_any (hs:StaAt B w0 x) (hBw:B≤w0.heap.size) (hf:FewI x) (hlv:∀j∈x.jobs.l, -9223372036854775808≤j.live∧j.live≤9223372036854775807) (hst: -9223372036854775808≤x.cfg.stp∧x.cfg.stp≤9223372036854775807) (n:Int) (hn: -9223372036854775808≤n∧n≤9223372036854775807):Calls Tryz.prog 37 #[x.v,i64 n] w0 fun e w'=>∃O:Sl Sub,O.l.map Sub.p=(planY x n.toNat).map (·.sub)∧O.l.length≤12000∧e= .returned O.v∧Made (star (subRs O)) w0 w':=by
 have hp:=Hp.start (S:=N0) w0
 have hB:∀b,N0 b→B≤b:=fun _ hh=>hh.elim
 have us:=Tryz.underlying141
 have ub:=Tryz.underlying60
 refine calls_x (args:= [_,_]) tabOk Tryz.func37 Tryz.ntmps37 Tryz.results37 rfl (Nat.le_of_ble_eq_true rfl) ?_
 ((conv=>whnf);repeat' ((first|((with_reducible refine ldn_id ?_);(apply lda_hs hp;(focus repeat' constructor);exact rfl))|((with_reducible refine al_id ?_);(refine al_cel hp ?_;clear hp;intro bb w hp)))<;>(conv=>whnf)))
 refine cl_eq (upto_any (hs.keep hp.chg hB) (Nat.le_trans hBw hp.chg.size) hf hlv hst n hn) rfl rfl ?_
 rintro e w ⟨r,k,hk,hrl,hY,rfl,hm⟩
 replace hp:=hp.add hm
 clear hm
 refine ⟨_,rfl,?_⟩
 replace hp:=hp.unfold
 ((conv=>whnf);repeat' (((with_reducible refine gen_id ?_);(apply gen_len;exact rfl;exact rfl;assumption))<;>(conv=>whnf)))
 replace hp:Hp N0 w0 w (rowR 69 37 Sub.c Sl.nil::rowR 144 39 Stp.c r::r.l.map stxP):=((hp.sub (rs':=rowR 144 39 Stp.c r::r.l.map stxP) (.cons_cons _ (List.sublist_append_left _ _))).nilRow 69 37 Sub.c)
 refine lp_inv (α:=Nat×Sl Sub) (fun a=> [(5,a.2.v),(10, .slice r.A k r.c),(11,i64 k),(12,i64 a.1)]) (fun a w=>a.1≤k∧a.2.l=(r.l.take a.1).map (·.sub)∧Hp N0 w0 w (rowR 69 37 Sub.c a.2::rowR 144 39 Stp.c r::r.l.map stxP)) (fun a=>k - a.1) (0,Sl.nil) (by (repeat' (first|exact trivial|(refine ⟨rfl,?_⟩)))) ⟨by omega,rfl,hp⟩ ?_
 clear hp
 rintro ⟨i,O⟩ e0 w ⟨hi,hO,hp⟩
 dsimp only at hi hO hp ⊢
 have hOl:O.l.length=i:=by rw [hO,List.length_map,List.length_take];omega
 rcases Nat.lt_or_ge i k with hlt|hge
 ·obtain ⟨bo,o,s,hA,hbb,hrow,hss⟩:=(hp.row (j:=1) rfl).has (i:=i) (by omega)
  have hnx:(r.l.take (i+1)).map (·.sub)=O.l++ [s.sub]:=by rw [List.take_add_one,hss,hO,List.map_append];rfl
  ((conv=>whnf);repeat' ((first|((with_reducible refine br_id ?_);((with_reducible refine br_dec (fun hx=>?_) (fun hx=>?_))<;>(try (exfalso;first|omega|contradiction))))|((with_reducible refine ar_id ?_);((refine ar_n (i+1) (by omega) (by omega) ?_)))|((with_reducible refine cn_id ?_);(refine cn rfl ?_))|((with_reducible refine ldn_id ?_);first|((refine ldn_ownx hp 1 rfl hA i rfl hss rfl ?_))|(apply ldn_hs hp;(focus repeat' constructor);exact rfl;exact rfl))|((with_reducible refine al_id ?_);(refine al_cel hp ?_;clear hp;intro bb w hp))|((with_reducible refine st_id ?_);(apply sta_hs hp;(focus repeat' constructor);exact rfl;exact rfl;clear hp;intro w hp;(try dsimp only [List.set] at hp)))|((with_reducible refine gen_id ?_);first|((refine gen_ixs rfl rfl hA rfl rfl (by omega) ?_))|((refine gen_bs rfl hp el_sub Sub.c [s.sub] [Sub.v s.sub] rfl rfl rfl (fun _ hh=>by simp at hh;subst hh;rfl) (by omega) ?_);clear hp;intro br w hp)|((refine gen_app (s:=O) rfl hp 2 rfl el_sub rfl ⟨some ⟨br,0,none⟩,1, [s.sub]⟩ rfl (hp.row (j:=0) rfl) (fun _ _=>rfl) sub_one (by simp only [List.length_cons,List.length_nil];omega) (by simp only [maxLen,List.length_cons,List.length_nil];omega) ?_);clear hp;intro A3 c3 w hp;dsimp only [List.set] at hp)))<;>(conv=>whnf)))
  exact lp_next (i+1,⟨A3,c3,O.l++ [s.sub]⟩) (by show k - (i+1) < k - i;omega) (by (repeat' (first|exact trivial|(refine ⟨rfl,?_⟩)))) ⟨by show i+1≤_;omega,hnx.symm,hp.tail.tail⟩
 ·obtain rfl:i=k:=by omega
  ((conv=>whnf);repeat' (((with_reducible refine br_id ?_);((with_reducible refine br_dec (fun hx=>?_) (fun hx=>?_))<;>(try (exfalso;first|omega|contradiction))))<;>(conv=>whnf)))
  refine ps_val (v':=O.v) rfl ⟨O,?_,by omega,rfl,?_⟩
  ·rw [hO,←hY,List.map_map,List.map_map]
   rfl
  ·have h1:Hp N0 w0 w (rowR 69 37 Sub.c O::O.l.map stxR):=by
    refine hp.sub (.cons_cons _ (.cons _ ?_))
    rw [hO,List.map_map]
    exact (List.take_sublist i r.l).map stxP
   exact h1.made (.refl _)
theorem pcost_any (hs:StaAt B w0 x) (hBw:B≤w0.heap.size) (hf:FewI x) (hlv:∀j∈x.jobs.l, -9223372036854775808≤j.live∧j.live≤9223372036854775807) (hst: -9223372036854775808≤x.cfg.stp∧x.cfg.stp≤9223372036854775807) (n:Int) (hn: -9223372036854775808≤n∧n≤9223372036854775807):Calls Tryz.prog 39 #[x.v,i64 n] w0 fun e w'=>e= .returned (.int .u64 ((((planY x n.toNat).map fun s=>s.fee.toNat).sum:Nat):Int))∧Chg N0 w0 w':=by
 have hp:=Hp.start (S:=N0) w0
 have hB:∀b,N0 b→B≤b:=fun _ hh=>hh.elim
 have us:=Tryz.underlying141
 refine calls_x (args:= [_,_]) tabOk Tryz.func39 Tryz.ntmps39 Tryz.results39 rfl (Nat.le_of_ble_eq_true rfl) ?_
 ((conv=>whnf);repeat' ((first|((with_reducible refine ldn_id ?_);(apply lda_hs hp;(focus repeat' constructor);exact rfl))|((with_reducible refine al_id ?_);(refine al_cel hp ?_;clear hp;intro bb w hp)))<;>(conv=>whnf)))
 refine cl_eq (upto_any (hs.keep hp.chg hB) (Nat.le_trans hBw hp.chg.size) hf hlv hst n hn) rfl rfl ?_
 rintro e w ⟨r,k,hk,hrl,hY,rfl,hm⟩
 replace hp:=hp.add hm
 clear hm
 refine ⟨_,rfl,?_⟩
 replace hp:=hp.unfold
 ((conv=>whnf);repeat' (((with_reducible refine gen_id ?_);(apply gen_len;exact rfl;exact rfl;assumption))<;>(conv=>whnf)))
 replace hp:Hp N0 w0 w [rowR 144 39 Stp.c r]:=hp.sub (.cons_cons _ (List.nil_sublist _))
 refine lp_inv (α:=Nat×Nat) (fun a=> [(5, .int .u64 a.2),(10, .slice r.A k r.c),(11,i64 k),(12,i64 a.1)]) (fun a w=>a.1≤k∧a.2=((r.l.take a.1).map fun s=>s.fee.toNat).sum∧a.2≤a.1*4294967296∧Hp N0 w0 w [rowR 144 39 Stp.c r]) (fun a=>k - a.1) (0,0) (by (repeat' (first|exact trivial|(refine ⟨rfl,?_⟩)))) ⟨by omega,rfl,Nat.zero_le _,hp⟩ ?_
 clear hp
 rintro ⟨i,S⟩ e0 w ⟨hi,hS,hb,hp⟩
 dsimp only at hi hS hb hp ⊢
 rcases Nat.lt_or_ge i k with hlt|hge
 ·obtain ⟨bo,o,s,hA,hbb,hrow,hss⟩:=(hp.row (j:=0) rfl).has (i:=i) (by omega)
  have hsf:=s.fee.toNat_lt
  have hnx:((r.l.take (i+1)).map fun s=>s.fee.toNat).sum=S+s.fee.toNat:=by rw [List.take_add_one,hss,hS,List.map_append,List.sum_append];simp
  have ar_s:∀{f:Int→Prop},f ((S+s.fee.toNat:Nat):Int)→Ar .u64 ((S:Int)+(s.fee.toNat:Int)) f:=fun {f} hff=>ar_u64 (by omega) (by rw [←Int.natCast_add];exact hff)
  ((conv=>whnf);repeat' ((first|((with_reducible refine br_id ?_);((with_reducible refine br_dec (fun hx=>?_) (fun hx=>?_))<;>(try (exfalso;first|omega|contradiction))))|((with_reducible refine ar_id ?_);first|((refine ar_n (i+1) (by omega) (by omega) ?_))|((refine ar_s ?_))|(refine ar_u64 (by omega) ?_))|((with_reducible refine cn_id ?_);(refine cn rfl ?_))|((with_reducible refine ld_id ?_);(apply ld_hs hp;(focus repeat' constructor);exact rfl))|((with_reducible refine ldn_id ?_);((refine ldn_ownx hp 0 rfl hA i rfl hss rfl ?_)))|((with_reducible refine al_id ?_);(refine al_cel hp ?_;clear hp;intro bb w hp))|((with_reducible refine st_id ?_);(apply sta_hs hp;(focus repeat' constructor);exact rfl;exact rfl;clear hp;intro w hp;(try dsimp only [List.set] at hp)))|((with_reducible refine gen_id ?_);((refine gen_ixs rfl rfl hA rfl rfl (by omega) ?_))))<;>(conv=>whnf)))
  exact lp_next (i+1,S+s.fee.toNat) (by show k - (i+1) < k - i;omega) (by (repeat' (first|exact trivial|(refine ⟨rfl,?_⟩)))) ⟨by show i+1≤_;omega,hnx.symm,by show S+s.fee.toNat≤(i+1)*4294967296;omega,hp.tail⟩
 ·obtain rfl:i=k:=by omega
  ((conv=>whnf);repeat' (((with_reducible refine br_id ?_);((with_reducible refine br_dec (fun hx=>?_) (fun hx=>?_))<;>(try (exfalso;first|omega|contradiction))))<;>(conv=>whnf)))
  refine ps_val (v':= .int .u64 S) rfl ⟨?_,hp.chg⟩
  rw [hS,←hY,List.map_map]
  rfl
theorem pquiet_any (hs:StaAt B w0 x) (hBw:B≤w0.heap.size) (hf:FewI x) (hlv:∀j∈x.jobs.l, -9223372036854775808≤j.live∧j.live≤9223372036854775807) (hst: -9223372036854775808≤x.cfg.stp∧x.cfg.stp≤9223372036854775807):Calls Tryz.prog 41 #[x.v] w0 fun e w'=>∃q:UInt32,(okX x=true→q.toNat=quietP x.ht.toNat (planX x))∧(okX x=false→q=0)∧e= .returned (.tuple #[u32 q, .bool (okX x)])∧Chg N0 w0 w':=by
 have hp:=Hp.start (S:=N0) w0
 have hB:∀b,N0 b→B≤b:=fun _ hh=>hh.elim
 have us:=Tryz.underlying141
 have hpl:=fun {w:World} (hc:Chg N0 w0 w)=>pall_any (hs.keep hc hB) (Nat.le_trans hBw hc.size) hf hlv hst
 obtain ⟨ok,hok⟩:∃q,okX x=q:=⟨_,rfl⟩
 rw [hok] at hpl ⊢
 cases ok with
 |false=>
  refine calls_x (args:= [_]) tabOk Tryz.func41 Tryz.ntmps41 Tryz.results41 rfl (Nat.le_of_ble_eq_true rfl) ?_
  ((conv=>whnf);repeat' ((first|((with_reducible refine ldn_id ?_);(apply lda_hs hp;(focus repeat' constructor);exact rfl))|((with_reducible refine al_id ?_);(refine al_cel hp ?_;clear hp;intro bb w hp)))<;>(conv=>whnf)))
  refine cl_eq (hpl hp.chg) rfl rfl ?_
  rintro e w ⟨r,hR,hrl,rfl,hm⟩
  replace hp:=hp.call0 hm.chg
  refine ⟨_,rfl,?_⟩
  ((conv=>whnf);repeat' (((with_reducible refine br_id ?_);first|(with_reducible refine br_f ?_)|(with_reducible refine br_not ?_))<;>(conv=>whnf)))
  exact ps_val (v':= .tuple #[.int .u32 0, .bool false]) rfl ⟨0,fun h=>(by cases h),fun _=>rfl,rfl,hp.chg⟩
 |true=>
  refine calls_x (args:= [_]) tabOk Tryz.func41 Tryz.ntmps41 Tryz.results41 rfl (Nat.le_of_ble_eq_true rfl) ?_
  ((conv=>whnf);repeat' ((first|((with_reducible refine ldn_id ?_);(apply lda_hs hp;(focus repeat' constructor);exact rfl))|((with_reducible refine al_id ?_);(refine al_cel hp ?_;clear hp;intro bb w hp)))<;>(conv=>whnf)))
  refine cl_eq (hpl hp.chg) rfl rfl ?_
  rintro e w ⟨r,hR,hrl,rfl,hm⟩
  replace hp:=hp.add hm
  clear hm
  refine ⟨_,rfl,?_⟩
  ((conv=>whnf);repeat' ((first|((with_reducible refine br_id ?_);first|(with_reducible refine br_t ?_)|(with_reducible refine br_not ?_))|((with_reducible refine ld_id ?_);(apply ld_hs hp;(focus repeat' constructor);exact rfl))|((with_reducible refine gen_id ?_);(apply gen_len;exact rfl;exact rfl;assumption)))<;>(conv=>whnf)))
  replace hp:=hp.unfold
  replace hp:Hp N0 w0 w [rowR 144 39 Stp.c r]:=hp.sub (.cons_cons _ (List.nil_sublist _))
  refine lp_inv (α:=Nat×UInt32) (fun a=> [(6,u32 a.2),(18,r.v),(19,i64 r.l.length),(20,i64 a.1)]) (fun a w=>a.1≤r.l.length∧a.2.toNat=quietP x.ht.toNat ((r.l.take a.1).map Stp.p)∧Hp N0 w0 w [rowR 144 39 Stp.c r]) (fun a=>r.l.length - a.1) (0,x.ht) (by (repeat' (first|exact trivial|(refine ⟨rfl,?_⟩)))) ⟨by omega,rfl,hp⟩ ?_
  clear hp
  rintro ⟨i,h⟩ e0 w ⟨hi,hS,hp⟩
  dsimp only at hi hS hp ⊢
  rcases Nat.lt_or_ge i r.l.length with hlt|hge
  ·obtain ⟨bo,o,s,hA,hbb,hrow,hss⟩:=(hp.row (j:=0) rfl).has (i:=i) (by omega)
   have h1:=h.toNat_lt
   have h2:=s.sub.height.toNat_lt
   obtain ⟨m,hm⟩:∃m:UInt32,m.toNat=max h.toNat s.sub.height.toNat:=⟨UInt32.ofNat (max h.toNat s.sub.height.toNat),by rw [UInt32.toNat_ofNat',Nat.mod_eq_of_lt (by omega)]⟩
   have hnx:quietP x.ht.toNat ((r.l.take (i+1)).map Stp.p)=m.toNat:=by
    rw [List.take_add_one,hss,List.map_append,hm,hS]
    unfold quietP
    rw [List.foldl_append]
    rfl
   have hmx:max (h.toNat:Int) (s.sub.height.toNat:Int)=(m.toNat:Int):=by omega
   ((conv=>whnf);repeat' ((first|((with_reducible refine br_id ?_);((with_reducible refine br_dec (fun hx=>?_) (fun hx=>?_))<;>(try (exfalso;first|omega|contradiction))))|((with_reducible refine ar_id ?_);((refine ar_n (i+1) (by omega) (by omega) ?_)))|((with_reducible refine cn_id ?_);(refine cn rfl ?_))|((with_reducible refine ld_id ?_);(apply ld_hs hp;(focus repeat' constructor);exact rfl))|((with_reducible refine ldn_id ?_);((refine ldn_ownx hp 0 rfl hA i rfl hss rfl ?_)))|((with_reducible refine al_id ?_);(refine al_cel hp ?_;clear hp;intro bb w hp))|((with_reducible refine st_id ?_);(apply sta_hs hp;(focus repeat' constructor);exact rfl;exact rfl;clear hp;intro w hp;(try dsimp only [List.set] at hp)))|((with_reducible refine gen_id ?_);first|((refine gen_ixs rfl rfl hA rfl rfl (by omega) ?_))|((refine gen_max rfl rfl rfl ?_;rw [hmx]))))<;>(conv=>whnf)))
   exact lp_next (i+1,m) (by show r.l.length - (i+1) < r.l.length - i;omega) (by (repeat' (first|exact trivial|(refine ⟨rfl,?_⟩)))) ⟨by show i+1≤_;omega,hnx.symm,hp.tail⟩
  ·rw [List.take_of_length_le (by omega),hR] at hS
   ((conv=>whnf);repeat' (((with_reducible refine br_id ?_);((with_reducible refine br_dec (fun hx=>?_) (fun hx=>?_))<;>(try (exfalso;first|omega|contradiction))))<;>(conv=>whnf)))
   exact ps_val (v':= .tuple #[u32 h, .bool true]) rfl ⟨h,fun _=>hS,fun h=>(by cases h),rfl,hp.chg⟩
end
end Go.Proofs.YteabebmlclgakaaGreat
/- Rested: a state at rest: the program's, in new memory; the document's. Of states that are few. -/
namespace Go.Proofs.YteabebmlclgakaaGreat
open Go.RowKit
set_option maxRecDepth 100000
set_option maxHeartbeats 4000000
end Go.Proofs.YteabebmlclgakaaGreat
/- Send2: what is sent out of a state, by the document; what an evicted transaction makes of a list of jobs. Of states that are few. -/
namespace Go.Proofs.YteabebmlclgakaaGreat
open Go.RowKit
set_option maxRecDepth 100000
set_option maxHeartbeats 4000000
end Go.Proofs.YteabebmlclgakaaGreat
/- Shelf4: shelf.Get, Of, Len, Bytes. -/
namespace Go.Proofs.YteabebmlclgakaaGreat
open Go.RowKit
set_option maxRecDepth 100000
set_option maxHeartbeats 2000000
end Go.Proofs.YteabebmlclgakaaGreat
/- Shelf5: shelf.Hinted. -/
namespace Go.Proofs.YteabebmlclgakaaGreat
open Go.RowKit
set_option maxRecDepth 100000
set_option maxHeartbeats 2000000
end Go.Proofs.YteabebmlclgakaaGreat
/- Shelf6: shelf.Drop, DropAll. -/
namespace Go.Proofs.YteabebmlclgakaaGreat
open Go.RowKit
set_option maxRecDepth 100000
set_option maxHeartbeats 2000000
end Go.Proofs.YteabebmlclgakaaGreat
/- Shelf7: shelf.DropAll; the law's example. -/
namespace Go.Proofs.YteabebmlclgakaaGreat
open Go.RowKit
set_option maxRecDepth 100000
set_option maxHeartbeats 2000000
end Go.Proofs.YteabebmlclgakaaGreat
