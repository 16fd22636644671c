/- MRespondAll25: Job5, Job6, Job7, Book5, Shelf4, Shelf5, Shelf6, Shelf7, ShListP, SortF, ShList. -/
import Derived.Test.YteabebmlclgakaaGreatMRespondAll24
import Derived.Test.YteabebmlclgakaaGreatMRespondAll21
import Derived.Test.YteabebmlclgakaaGreatMRespondAll9
import Derived.Test.YteabebmlclgakaaGreatMRespondAll4
import Derived.Test.YteabebmlclgakaaGreatMRespondAllsSlice
import Derived.Shelf.SlSortCmp.NoneTotal
import Derived.Test.YteabebmlclgakaaGreatMRespondAll11
import Derived.Shelf.SlGeneric
set_option linter.unusedSimpArgs false
set_option linter.unusedVariables false
/- Job5: the table of jobs: which tier is live. -/
namespace Go.Proofs.YteabebmlclgakaaGreat
open Go.RowKit
set_option maxRecDepth 100000
set_option maxHeartbeats 4000000
def liveE (l:List (Key×EntB)) (k:Key) (t:Int):Bool:=match l.lookup k with
 |none=>false
 |some x=>decide (x.job.mined.toNat=0∧ -1≤t∧t < (x.job.pay.l.length:Int))
def liveL (l:List (Key×EntB)) (k:Key) (t:Int):List (Key×EntB):=if liveE l k t=true then l.map fun a=>if a.1=k then setP a t else a else l
theorem jtAtT {S:Nat→Prop} {w0 w:World} {b m:Nat} {ord:Sl Key} {l:List (Key×EntB)} {r:Res} (hp:Hp S w0 w (r::jtRs b m ord l)):JtAt w b m ord l:=by
 have h1:=hp.tail.fold (jtRs b m ord l).length
 rw [List.take_length,List.drop_length] at h1
 exact jtAt (h1.get (j:=0) rfl)
theorem jlive_any {w0:World} {b m:Nat} {ord:Sl Key} {l:List (Key×EntB)} (h:(star (jtRs b m ord l)).ok w0) (hI:JtI ord.l l) (k:Key) (t:Int):
  Calls Tryz.prog 123 #[ptr b,k.v,i64 t] w0 fun e w'=>e= .returned (.bool (liveE l k t))∧Mut (star (jtRs b m ord l)) (star (jtRs b m ord (liveL l k t))) w0 w':=by
 have hp:=Hp.open h
 have u1:=Tryz.underlying52
 have up:=Tryz.underlying194
 unfold liveL
 cases hlk:l.lookup k with
 |none=>
  have hE:liveE l k t=false:=by unfold liveE;rw [hlk]
  rw [hE,if_neg (by simp)]
  have hat:=fun {S:Nat→Prop} {w0 w:World} {r:Res} (hp:Hp S w0 w (r::jtRs b m ord l))=>jat_any (jtAtT hp) k
  rw [hlk] at hat
  refine calls_x (args:= [_,_,_]) tabOk Tryz.func123 Tryz.ntmps123 Tryz.results123 rfl (Nat.le_of_ble_eq_true rfl) ?_
  ((conv=>whnf);repeat' ((first|((with_reducible refine br_id ?_);(with_reducible refine br_t ?_))|((with_reducible refine ldn_id ?_);(apply lda_hs hp;(focus repeat' constructor);exact rfl))|((with_reducible refine al_id ?_);(refine al_cel hp ?_;clear hp;intro bb w hp))|((with_reducible refine cl_id ?_);((refine cl_eq ((hat hp)) rfl rfl ?_;rintro e w ⟨rfl,hcc⟩;replace hp:=hp.call0 hcc;refine ⟨_,rfl,?_⟩))))<;>(conv=>whnf)))
  exact ps_val (v':= .bool false) rfl ⟨rfl,hp.tail.shut (.refl _)⟩
 |some x=>
  have hat:=fun {S:Nat→Prop} {w0 w:World} {r:Res} (hp:Hp S w0 w (r::jtRs b m ord l))=>jat_any (jtAtT hp) k
  rw [hlk] at hat
  have hmem:=lku_mem hlk
  obtain ⟨i,hi⟩:=List.getElem?_of_mem hmem
  have hen:=fun {S:Nat→Prop} {w0 w:World} {r:Res} (hp:Hp S w0 w (r::jtRs b m ord l))=>((jtAtT hp).ent _ hmem).cel
  have hil:x.ids.l.length=x.job.pay.l.length:=by rw [hI.ids _ hmem,List.length_map]
  have hE:liveE l k t=decide (x.job.mined.toNat=0∧ -1≤t∧t < (x.job.pay.l.length:Int)):=by unfold liveE;rw [hlk]
  by_cases hc:x.job.mined.toNat=0∧ -1≤t∧t < (x.job.pay.l.length:Int)
  ·rw [hE,decide_eq_true hc,if_pos rfl]
   refine calls_x (args:= [_,_,_]) tabOk Tryz.func123 Tryz.ntmps123 Tryz.results123 rfl (Nat.le_of_ble_eq_true rfl) ?_
   ((conv=>whnf);repeat' ((first|((with_reducible refine br_id ?_);first|(with_reducible refine br_t ?_)|(with_reducible refine br_f ?_)|((with_reducible refine br_dec (fun hx=>?_) (fun hx=>?_))<;>(try (exfalso;first|omega|contradiction)))|((with_reducible refine br_ne (fun hx=>?_) (fun hx=>?_))<;>(try (exfalso;first|omega|contradiction))))|((with_reducible refine ld_id ?_);((refine ld_of (cell_of_heap (hen hp) rfl) ?_)))|((with_reducible refine ldn_id ?_);(apply lda_hs hp;(focus repeat' constructor);exact rfl))|((with_reducible refine al_id ?_);(refine al_cel hp ?_;clear hp;intro bb w hp))|((with_reducible refine gen_id ?_);(apply gen_len;exact rfl;exact rfl;assumption))|((with_reducible refine cl_id ?_);((refine cl_eq ((hat hp)) rfl rfl ?_;rintro e w ⟨rfl,hcc⟩;replace hp:=hp.call0 hcc;refine ⟨_,rfl,?_⟩))))<;>(conv=>whnf)))
   all_goals first
    |(exfalso;dsimp only at*;omega)
    |skip
   have hok:(cel x.b 198 (EntB.c x).toArray).ok w:=by
    have hj:(jtRs b m ord l)[i+3]? =some (jentR (k,x)):=by
     show (l.map jentR)[i]? =_
     rw [List.getElem?_map,hi]
     rfl
    exact (Hp.open (show (star (jentRs (k,x))).ok w from hp.tail.get hj)).get (j:=0) rfl
   refine cl_eq (elive_any hok t) rfl rfl ?_
   rintro e w ⟨rfl,hm⟩
   have hp2:=jt_live (t:=t) hp.tail hi hm
   rw [set_upd (f:=fun a=>setP a t) hI.nd hi] at hp2
   clear hp hat hen
   have hp:=hp2
   refine ⟨_,rfl,?_⟩
   ((conv=>whnf);repeat' ((first|((with_reducible refine br_id ?_);first|(with_reducible refine br_t ?_)|(with_reducible refine br_f ?_)|(with_reducible refine br_not ?_)|((with_reducible refine br_dec (fun hx=>?_) (fun hx=>?_))<;>(try (exfalso;first|omega|contradiction)))|((with_reducible refine br_eq (fun hx=>?_) (fun hx=>?_))<;>(try (exfalso;first|omega|contradiction)))|((with_reducible refine br_ne (fun hx=>?_) (fun hx=>?_))<;>(try (exfalso;first|omega|contradiction)))|((with_reducible refine br_s (fun hx=>?_) (fun hx=>?_))<;>(try (exfalso;first|omega|contradiction))))|((with_reducible refine ar_id ?_);first|(refine ar_i64 (by omega) ?_)|(refine ar_u32 (by omega) ?_)|(refine ar_u64 (by omega) ?_)|(refine ar_u8 (by omega) ?_))|((with_reducible refine cn_id ?_);first|(refine cn rfl ?_)|(refine cn ‹_› ?_)|(refine cn (by omega) ?_)|(refine cn (Chg.refl _ _) ?_))|((with_reducible refine ld_id ?_);first|(apply ld_hs hp;(focus repeat' constructor);exact rfl)|(refine ld_of ‹_› ?_))|((with_reducible refine ldn_id ?_);first|(apply lda_hs hp;(focus repeat' constructor);exact rfl)|(apply ldn_hs hp;(focus repeat' constructor);exact rfl;exact rfl))|((with_reducible refine al_id ?_);(refine al_cel hp ?_;clear hp;intro bb w hp))|((with_reducible refine st_id ?_);first|(apply sta_hs hp;(focus repeat' constructor);exact rfl;exact rfl;clear hp;intro w hp;(try dsimp only [List.set] at hp))|(apply st_hs hp;(focus repeat' constructor);exact rfl;exact rfl;clear hp;intro w hp;(try dsimp only [List.set] at hp)))|((with_reducible refine gen_id ?_);first|(apply gen_build;exact rfl;exact rfl)|(apply gen_len;exact rfl;exact rfl;assumption)|(apply gen_min;exact rfl;exact rfl;exact rfl)|(apply gen_max;exact rfl;exact rfl;exact rfl)|(apply gen_ix;exact rfl;exact rfl;exact rfl;exact rfl;omega)|(apply gen_ixa;exact rfl;exact rfl;exact rfl;exact rfl;omega))|((with_reducible refine dr_id ?_);first|(refine dr_auto tabOk (by kernel_rfl) (by decide+kernel) ?_;(try replace hp:=hp.drew))|(refine dr_autog tabOk (by kernel_rfl) (by decide+kernel) ?_;(try replace hp:=hp.drew))|(refine dr_autot tabOk (by kernel_rfl) (by decide+kernel) ?_;(try replace hp:=hp.drew)))|((with_reducible refine fk_id ?_);(refine fk_mk ?_ ?_))|((with_reducible refine rd_id ?_);first|(apply rd_len;exact rfl;exact rfl;assumption)|(apply rd_ix;exact rfl;exact rfl;exact rfl;exact rfl;omega)))<;>(conv=>whnf)))
   exact ps_val (v':= .bool true) rfl ⟨rfl,hp.shut (.refl _)⟩
  ·rw [hE,decide_eq_false hc,if_neg (by simp)]
   refine calls_x (args:= [_,_,_]) tabOk Tryz.func123 Tryz.ntmps123 Tryz.results123 rfl (Nat.le_of_ble_eq_true rfl) ?_
   ((conv=>whnf);repeat' ((first|((with_reducible refine br_id ?_);first|(with_reducible refine br_t ?_)|(with_reducible refine br_f ?_)|((with_reducible refine br_dec (fun hx=>?_) (fun hx=>?_))<;>(try (exfalso;first|omega|contradiction)))|((with_reducible refine br_ne (fun hx=>?_) (fun hx=>?_))<;>(try (exfalso;first|omega|contradiction))))|((with_reducible refine ld_id ?_);((refine ld_of (cell_of_heap (hen hp) rfl) ?_)))|((with_reducible refine ldn_id ?_);(apply lda_hs hp;(focus repeat' constructor);exact rfl))|((with_reducible refine al_id ?_);(refine al_cel hp ?_;clear hp;intro bb w hp))|((with_reducible refine gen_id ?_);(apply gen_len;exact rfl;exact rfl;assumption))|((with_reducible refine cl_id ?_);((refine cl_eq ((hat hp)) rfl rfl ?_;rintro e w ⟨rfl,hcc⟩;replace hp:=hp.call0 hcc;refine ⟨_,rfl,?_⟩))))<;>(conv=>whnf)))
   all_goals first
    |(exfalso;dsimp only at*;omega)
    |exact ps_val (v':= .bool false) rfl ⟨rfl,hp.tail.shut (.refl _)⟩
end Go.Proofs.YteabebmlclgakaaGreat
/- Job6: the table of jobs: what an evicted transaction makes of it. -/
namespace Go.Proofs.YteabebmlclgakaaGreat
open Go.RowKit
set_option maxRecDepth 100000
set_option maxHeartbeats 4000000
end Go.Proofs.YteabebmlclgakaaGreat
/- Job7: the table of jobs: Evict. -/
namespace Go.Proofs.YteabebmlclgakaaGreat
open Go.RowKit
set_option maxRecDepth 100000
set_option maxHeartbeats 4000000
end Go.Proofs.YteabebmlclgakaaGreat
/- Book5: package book: what a loaded book tells. -/
namespace Go.Proofs.YteabebmlclgakaaGreat
open Go.RowKit
set_option maxRecDepth 100000
set_option maxHeartbeats 4000000
theorem babsent_any {w0:World} {b:Nat} {X:Bk} (h:w0.heap[b]? =some (.cells X.c.toArray 121)):Calls Tryz.prog 73 #[ptr b] w0 fun e w'=>e= .returned (.bool false)∧Chg N0 w0 w':=by
 have hp:=Hp.start (S:=N0) w0
 refine calls_x (args:= [_]) tabOk Tryz.func73 Tryz.ntmps73 Tryz.results73 rfl (Nat.le_of_ble_eq_true rfl) ?_
 ((conv=>whnf);repeat' ((first|((with_reducible refine br_id ?_);(with_reducible refine br_f ?_))|((with_reducible refine ld_id ?_);((refine ld_of (cell_of_heap (hp.chg.heap0 h) rfl) ?_))))<;>(conv=>whnf)))
 all_goals exact ps_val (v':= .bool false) rfl ⟨rfl,hp.chg⟩
theorem bhalted_any {w0:World} {b:Nat} {X:Bk} (h:w0.heap[b]? =some (.cells X.c.toArray 121)):Calls Tryz.prog 70 #[ptr b] w0 fun e w'=>e= .returned (i64 X.halt)∧Chg N0 w0 w':=by
 have hp:=Hp.start (S:=N0) w0
 refine calls_x (args:= [_]) tabOk Tryz.func70 Tryz.ntmps70 Tryz.results70 rfl (Nat.le_of_ble_eq_true rfl) ?_
 ((conv=>whnf);repeat' ((first|((with_reducible refine br_id ?_);(with_reducible refine br_f ?_))|((with_reducible refine ld_id ?_);((refine ld_of (cell_of_heap (hp.chg.heap0 h) rfl) ?_)))|((with_reducible refine cl_id ?_);((refine cl_eq ((babsent_any (hp.chg.heap0 h))) rfl rfl ?_;rintro e w ⟨rfl,hcc⟩;replace hp:=hp.call0 hcc;refine ⟨_,rfl,?_⟩))))<;>(conv=>whnf)))
 exact ps_val (v':=i64 X.halt) rfl ⟨rfl,hp.chg⟩
theorem bheight_any {w0:World} {b:Nat} {X:Bk} {C:Chn} (h:w0.heap[b]? =some (.cells X.c.toArray 121)) (hc:ChAt w0 X.bc C):Calls Tryz.prog 79 #[ptr b] w0 fun e w'=>e= .returned (u32 C.ht)∧Chg N0 w0 w':=by
 have hp:=Hp.start (S:=N0) w0
 refine calls_x (args:= [_]) tabOk Tryz.func79 Tryz.ntmps79 Tryz.results79 rfl (Nat.le_of_ble_eq_true rfl) ?_
 ((conv=>whnf);repeat' ((first|((with_reducible refine br_id ?_);(with_reducible refine br_f ?_))|((with_reducible refine ld_id ?_);((refine ld_of (cell_of_heap (hp.chg.heap0 h) rfl) ?_)))|((with_reducible refine cl_id ?_);first|((refine cl_eq ((babsent_any (hp.chg.heap0 h))) rfl rfl ?_;rintro e w ⟨rfl,hcc⟩;replace hp:=hp.call0 hcc;refine ⟨_,rfl,?_⟩))|((refine cl_eq ((cheight_any (hc.keep0 hp.chg))) rfl rfl ?_;rintro e w ⟨rfl,hcc⟩;replace hp:=hp.call0 hcc;refine ⟨_,rfl,?_⟩))))<;>(conv=>whnf)))
 exact ps_val (v':=u32 C.ht) rfl ⟨rfl,hp.chg⟩
theorem bconfig_any {w0:World} {b:Nat} {X:Bk} (h:w0.heap[b]? =some (.cells X.c.toArray 121)):Calls Tryz.prog 122 #[ptr b] w0 fun e w'=>e= .returned X.cfg.v∧Chg N0 w0 w':=by
 have hp:=Hp.start (S:=N0) w0
 refine calls_x (args:= [_]) tabOk Tryz.func122 Tryz.ntmps122 Tryz.results122 rfl (Nat.le_of_ble_eq_true rfl) ?_
 ((conv=>whnf);repeat' ((first|((with_reducible refine br_id ?_);(with_reducible refine br_f ?_))|((with_reducible refine cn_id ?_);(refine cn rfl ?_))|((with_reducible refine ldn_id ?_);first|((refine ldn_pre (cs:=X.c) (hp.chg.heap0 h) rfl (vs:=X.cfg.c) rfl rfl ?_))|(apply lda_hs hp;(focus repeat' constructor);exact rfl))|((with_reducible refine al_id ?_);(refine al_cel hp ?_;clear hp;intro bb w hp))|((with_reducible refine st_id ?_);(apply sta_hs hp;(focus repeat' constructor);exact rfl;exact rfl;clear hp;intro w hp;(try dsimp only [List.set] at hp)))|((with_reducible refine cl_id ?_);((refine cl_eq ((babsent_any (hp.chg.heap0 h))) rfl rfl ?_;rintro e w ⟨rfl,hcc⟩;replace hp:=hp.call0 hcc;refine ⟨_,rfl,?_⟩))))<;>(conv=>whnf)))
 exact ps_val (v':=X.cfg.v) rfl ⟨rfl,hp.chg⟩
theorem bjobs_any {w0:World} {b m:Nat} {X:Bk} {ord:Sl Key} {l:List (Key×EntB)} (h:w0.heap[b]? =some (.cells X.c.toArray 121)) (hj:JtAt w0 X.bj m ord l) (hI:JtI ord.l l) (hmany:l.length≤100000):Calls Tryz.prog 18 #[ptr b] w0 fun e w'=>∃r:Sl Job,r.l.map Job.p=l.map (fun p=>p.2.job.p)∧e= .returned r.v∧Made (star (jobRs r)) w0 w':=by
 have hp:=Hp.start (S:=N0) w0
 refine calls_x (args:= [_]) tabOk Tryz.func18 Tryz.ntmps18 Tryz.results18 rfl (Nat.le_of_ble_eq_true rfl) ?_
 ((conv=>whnf);repeat' ((first|((with_reducible refine br_id ?_);(with_reducible refine br_f ?_))|((with_reducible refine ld_id ?_);((refine ld_of (cell_of_heap (hp.chg.heap0 h) rfl) ?_)))|((with_reducible refine cl_id ?_);((refine cl_eq ((babsent_any (hp.chg.heap0 h))) rfl rfl ?_;rintro e w ⟨rfl,hcc⟩;replace hp:=hp.call0 hcc;refine ⟨_,rfl,?_⟩))))<;>(conv=>whnf)))
 refine cl_eq (jlist_any (hj.keep0 hp.chg) hI hmany) rfl rfl ?_
 rintro e w ⟨r,hr,rfl,hm⟩
 replace hp:=hp.add hm
 refine ⟨_,rfl,?_⟩
 ((conv=>whnf);repeat' ((first|((with_reducible refine br_id ?_);first|(with_reducible refine br_t ?_)|(with_reducible refine br_f ?_)|(with_reducible refine br_not ?_)|((with_reducible refine br_dec (fun hx=>?_) (fun hx=>?_))<;>(try (exfalso;first|omega|contradiction)))|((with_reducible refine br_eq (fun hx=>?_) (fun hx=>?_))<;>(try (exfalso;first|omega|contradiction)))|((with_reducible refine br_ne (fun hx=>?_) (fun hx=>?_))<;>(try (exfalso;first|omega|contradiction)))|((with_reducible refine br_s (fun hx=>?_) (fun hx=>?_))<;>(try (exfalso;first|omega|contradiction))))|((with_reducible refine ar_id ?_);first|(refine ar_i64 (by omega) ?_)|(refine ar_u32 (by omega) ?_)|(refine ar_u64 (by omega) ?_)|(refine ar_u8 (by omega) ?_))|((with_reducible refine cn_id ?_);first|(refine cn rfl ?_)|(refine cn ‹_› ?_)|(refine cn (by omega) ?_)|(refine cn (Chg.refl _ _) ?_))|((with_reducible refine ld_id ?_);first|(apply ld_hs hp;(focus repeat' constructor);exact rfl)|(refine ld_of ‹_› ?_))|((with_reducible refine ldn_id ?_);first|(apply lda_hs hp;(focus repeat' constructor);exact rfl)|(apply ldn_hs hp;(focus repeat' constructor);exact rfl;exact rfl))|((with_reducible refine al_id ?_);(refine al_cel hp ?_;clear hp;intro bb w hp))|((with_reducible refine st_id ?_);first|(apply sta_hs hp;(focus repeat' constructor);exact rfl;exact rfl;clear hp;intro w hp;(try dsimp only [List.set] at hp))|(apply st_hs hp;(focus repeat' constructor);exact rfl;exact rfl;clear hp;intro w hp;(try dsimp only [List.set] at hp)))|((with_reducible refine gen_id ?_);first|(apply gen_build;exact rfl;exact rfl)|(apply gen_len;exact rfl;exact rfl;assumption)|(apply gen_min;exact rfl;exact rfl;exact rfl)|(apply gen_max;exact rfl;exact rfl;exact rfl)|(apply gen_ix;exact rfl;exact rfl;exact rfl;exact rfl;omega)|(apply gen_ixa;exact rfl;exact rfl;exact rfl;exact rfl;omega))|((with_reducible refine dr_id ?_);first|(refine dr_auto tabOk (by kernel_rfl) (by decide+kernel) ?_;(try replace hp:=hp.drew))|(refine dr_autog tabOk (by kernel_rfl) (by decide+kernel) ?_;(try replace hp:=hp.drew))|(refine dr_autot tabOk (by kernel_rfl) (by decide+kernel) ?_;(try replace hp:=hp.drew)))|((with_reducible refine fk_id ?_);(refine fk_mk ?_ ?_))|((with_reducible refine rd_id ?_);first|(apply rd_len;exact rfl;exact rfl;assumption)|(apply rd_ix;exact rfl;exact rfl;exact rfl;exact rfl;omega)))<;>(conv=>whnf)))
 exact ps_val (v':=r.v) rfl ⟨r,hr,rfl,hp.made1 (j:=0) rfl⟩
abbrev bjRs (bk:Nat) (X:Bk) (m:Nat) (ord:Sl Key) (l:List (Key×EntB)):List Res:= [bkR bk X,star (jtRs X.bj m ord l)]
theorem blive_any {w0:World} {bk m:Nat} {X:Bk} {ord:Sl Key} {l:List (Key×EntB)} (h:(star (bjRs bk X m ord l)).ok w0) (hI:JtI ord.l l) (k:Key) (t:Int):
  Calls Tryz.prog 72 #[ptr bk,k.v,i64 t] w0 fun e w'=>e= .returned (.bool (liveE l k t))∧Mut (star (bjRs bk X m ord l)) (star (bjRs bk X m ord (liveL l k t))) w0 w':=by
 have hp:=Hp.open h
 refine calls_x (args:= [_,_,_]) tabOk Tryz.func72 Tryz.ntmps72 Tryz.results72 rfl (Nat.le_of_ble_eq_true rfl) ?_
 ((conv=>whnf);repeat' (((with_reducible refine al_id ?_);(refine al_cel hp ?_;clear hp;intro bb w hp))<;>(conv=>whnf)))
 refine dr_autos [] 10 tabOk (by kernel_rfl) (by decide+kernel) ?_
 replace hp:=hp.drew
 ((conv=>whnf);repeat' ((first|((with_reducible refine br_id ?_);first|(with_reducible refine br_t ?_)|(with_reducible refine br_f ?_)|(with_reducible refine br_not ?_))|((with_reducible refine cn_id ?_);(refine cn ‹_› ?_))|((with_reducible refine ld_id ?_);(apply ld_hs hp;(focus repeat' constructor);exact rfl))|((with_reducible refine ldn_id ?_);(apply lda_hs hp;(focus repeat' constructor);exact rfl))|((with_reducible refine cl_id ?_);first|((refine cl_eq ((babsent_any (hp.cel_get (j:=1) rfl))) rfl rfl ?_;rintro e w ⟨rfl,hcc⟩;replace hp:=hp.call0 hcc;refine ⟨_,rfl,?_⟩))|((refine cl_eq (jlive_any (hp.get (j:=2) rfl) hI k t) rfl rfl ?_;rintro e w ⟨rfl,hm⟩;replace hp:=hp.via (j:=2) rfl hm;replace hm:=hm.chg;dsimp only [List.set] at hp;refine ⟨_,rfl,?_⟩))))<;>(conv=>whnf)))
 all_goals exact ps_val (v':= .bool (liveE l k t)) rfl ⟨rfl,hp.tail.shut (.refl _)⟩
end Go.Proofs.YteabebmlclgakaaGreat
/- Shelf4: shelf.Get, Of, Len, Bytes. -/
namespace Go.Proofs.YteabebmlclgakaaGreat
open Go.RowKit
set_option maxRecDepth 100000
set_option maxHeartbeats 2000000
structure ShAt (w:World) (b:Nat) (g:Shf):Prop where
 c0:w.cell? ⟨b,0,none⟩=some (ptr g.hb)
 c1:w.cell? ⟨b,1,none⟩=some (ptr g.mb)
 c2:w.cell? ⟨b,2,none⟩=some (.map (some g.am))
 c4:w.cell? ⟨b,4,none⟩=some (i64 g.bytes)
 hk:(star (iRsHK g.hb g.hm g.lh g.nh)).ok w
 uk:(star (iRsUK g.mb g.mm g.lm g.nm)).ok w
 map:MapAt Key.v Ent.v w g.am g.la
 data:∀p∈g.la,SlAt w.heap.size w u8L 1 p.2.blob.data
theorem shAt {w:World} {b:Nat} {g:Shf} (h:(star (shRs b g)).ok w):ShAt w b g:=by
 have hp:=Hp.open h
 have hc:=hp.cel_get (j:=0) rfl
 exact ⟨cell_of_heap hc rfl,cell_of_heap hc rfl,cell_of_heap hc rfl,cell_of_heap hc rfl,hp.get (j:=1) rfl,hp.get (j:=2) rfl,mapR_ok.1 (hp.get (j:=3) rfl),
  fun p hm=>rowR_at (e:=5) (hp.ok (entR p) (List.mem_cons_of_mem _ (List.mem_cons_of_mem _ (List.mem_cons_of_mem _ (List.mem_cons_of_mem _ (List.mem_map_of_mem hm))))))⟩
theorem ShAt.keep0 {w w':World} {b:Nat} {g:Shf} (h:ShAt w b g) (hc:Chg N0 w w'):ShAt w' b g:=
 ⟨hc.cell0 h.c0,hc.cell0 h.c1,hc.cell0 h.c2,hc.cell0 h.c4,(star _).keep0 h.hk hc,(star _).keep0 h.uk hc,h.map.keep0 hc,fun p hm=>((h.data p hm).keep hc fun _ hh=>hh.elim).more hc.size⟩
end Go.Proofs.YteabebmlclgakaaGreat
/- Shelf5: shelf.Hinted. -/
namespace Go.Proofs.YteabebmlclgakaaGreat
open Go.RowKit
set_option maxRecDepth 100000
set_option maxHeartbeats 2000000
abbrev dataR (x:Blob):Res:=rowR 5 1 u8L x.data
abbrev blobsR (r:Sl Blob):List Res:=rowR 40 19 Blob.c r::r.l.map dataR
end Go.Proofs.YteabebmlclgakaaGreat
/- Shelf6: shelf.Drop, DropAll. -/
namespace Go.Proofs.YteabebmlclgakaaGreat
open Go.RowKit
set_option maxRecDepth 100000
set_option maxHeartbeats 2000000
end Go.Proofs.YteabebmlclgakaaGreat
/- Shelf7: shelf.DropAll; the law's example. -/
namespace Go.Proofs.YteabebmlclgakaaGreat
open Go.RowKit
set_option maxRecDepth 100000
set_option maxHeartbeats 2000000
end Go.Proofs.YteabebmlclgakaaGreat
/- ShListP: entries in the order of their places. No program in sight. -/
namespace Go.Proofs.YteabebmlclgakaaGreat
open Go.RowKit
set_option maxRecDepth 100000
set_option maxHeartbeats 2000000
theorem la_at {g:Shf} {W:List BlP} (hI:ShI g W) (hnd:(g.la.map (·.1)).Nodup) {p:Key×Ent} (hp:p∈g.la):mlk g.la p.1=some p.2∧p.2.blob.p∈W∧p.2.blob.p.key=p.1:=by
 obtain ⟨j,hj⟩:=List.getElem?_of_mem hp
 have h1:mlk g.la p.1=some p.2:=lookup_of_get hnd hj
 have h2:=hI.all p.1
 rw [h1] at h2
 have h3:=byKey_mem (h2.symm:byKey W p.1=some p.2.blob.p)
 exact ⟨h1,h3⟩
theorem la_ok {g:Shf} {W:List BlP} (hI:ShI g W) (hnd:(g.la.map (·.1)).Nodup):∃pl:Key→Int,W.Pairwise (fun x y=>pl x.key < pl y.key)∧(g.la.map (·.2.blob.p)).Perm W∧∀p∈g.la,p.2.place=pl p.2.blob.p.key∧0≤p.2.place∧p.2.place≤100000:=by
 obtain ⟨pl,h1,h2,h3⟩:=hI.ord
 have hnx:=hI.next
 refine ⟨pl,h2,?_,fun p hp=>?_⟩
 ·have hk:(g.la.map (·.2.blob.p)).map (·.key)=g.la.map (·.1):=by
   rw [List.map_map]
   exact List.map_congr_left fun p hp=>(la_at hI hnd hp).2.2
  have hn1:(g.la.map (·.2.blob.p)).Nodup:=List.Pairwise.of_map (S:=fun a b:Key=>a≠b) (fun y:BlP=>y.key) (fun a b h e=>h (by rw [e])) (by rw [hk];exact hnd)
  have hn2:W.Nodup:=List.Pairwise.of_map (S:=fun a b:Key=>a≠b) (fun y:BlP=>y.key) (fun a b h e=>h (by rw [e])) hI.nodup
  refine (List.perm_ext_iff_of_nodup hn1 hn2).2 fun y=>⟨fun hy=>?_,fun hy=>?_⟩
  ·obtain ⟨p,hp,rfl⟩:=List.mem_map.1 hy
   exact (la_at hI hnd hp).2.1
  ·have h4:=hI.all y.key
   rw [byKey_some hI.nodup hy rfl] at h4
   cases hl:mlk g.la y.key with
   |none=>rw [hl] at h4;cases h4
   |some en=>
    rw [hl] at h4
    exact List.mem_map.2 ⟨_,hg_lookup (by unfold mlk at hl;exact hl),Option.some.inj h4⟩
 ·obtain ⟨h4,h5,h6⟩:=la_at hI hnd hp
  have h7:=h1 _ _ h4
  have h8:=h3 _ h5
  rw [h6] at h8 ⊢
  exact ⟨h7,by omega,by omega⟩
theorem pl_inj {pl:Key→Int} {W:List BlP} (h:W.Pairwise fun x y=>pl x.key < pl y.key) {a b:BlP} (ha:a∈W) (hb:b∈W) (he:pl a.key=pl b.key):a=b:=by
 obtain ⟨i,hi⟩:=List.getElem?_of_mem ha
 obtain ⟨j,hj⟩:=List.getElem?_of_mem hb
 obtain ⟨hi1,hi2⟩:=List.getElem?_eq_some_iff.1 hi
 obtain ⟨hj1,hj2⟩:=List.getElem?_eq_some_iff.1 hj
 rw [List.pairwise_iff_getElem] at h
 rcases Nat.lt_trichotomy i j with h1|h1|h1
 ·have:=h i j hi1 hj1 h1
  rw [hi2,hj2] at this
  omega
 ·subst h1
  rw [hi] at hj
  exact Option.some.inj hj
 ·have:=h j i hj1 hi1 h1
  rw [hi2,hj2] at this
  omega
theorem in_order {pl:Key→Int} {W l:List BlP} (h:W.Pairwise fun x y=>pl x.key < pl y.key) (hp:l.Perm W) (hs:l.Pairwise fun x y=>pl x.key≤pl y.key):l=W:=
 List.Perm.eq_of_pairwise (le:=fun x y=>pl x.key≤pl y.key) (fun a b ha hb h1 h2=>pl_inj h (hp.mem_iff.1 ha) hb (Int.le_antisymm h1 h2)) hs (h.imp fun hh=>Int.le_of_lt hh) hp
end Go.Proofs.YteabebmlclgakaaGreat
/- SortF: rows of its own under the library's sort by a function (the kit's contract of slices.SortFunc, laid at resources). No condition. -/
namespace Go.Proofs.YteabebmlclgakaaGreat
open Go.RowKit Go.Shelf Go.Lib
set_option maxRecDepth 100000
set_option maxHeartbeats 2000000
section
variable {α : Type} [Inhabited α] {enc : α → List Value} {sz : Nat} {e : TypeId} {s : Sl α} {w : World} {b : Nat}
theorem flatK_list (hk:∀x,(enc x).length=sz) (d:Array α):(Sort.flatK enc sz d).toList=d.toList.flatMap enc:=by
 have hl:(d.toList.flatMap enc).length=d.size*sz:=by rw [flat_len (fun x _=>hk x),Array.length_toList]
 apply List.ext_getElem?
 intro t
 rcases Nat.lt_or_ge t (d.size*sz) with ht|ht
 ·have h0:0 < sz:=Nat.pos_of_ne_zero fun h=>by subst h;simp at ht
  have hi:t / sz < d.size:=Nat.div_lt_of_lt_mul (by rw [Nat.mul_comm];exact ht)
  have hx:d.toList[t / sz]? =some d[t / sz]! :=by rw [Array.getElem?_toList,Array.getElem?_eq_getElem hi,getElem!_pos d _ hi]
  have hm:t % sz < (enc d[t / sz]!).length:=by rw [hk];exact Nat.mod_lt _ h0
  have h1:=flat_at (l:=d.toList) (fun x _=>hk x) _ _ hx (t % sz) _ (List.getElem?_eq_getElem hm)
  rw [show t / sz*sz+t % sz=t from by rw [Nat.mul_comm];exact Nat.div_add_mod t sz] at h1
  have hts:t < (Sort.flatK enc sz d).size:=by rw [Sort.size_flatK];exact ht
  rw [h1,Array.getElem?_toList,Array.getElem?_eq_getElem hts,←getElem!_pos (Sort.flatK enc sz d) t hts,Sort.get_flatK _ _ _ _ ht]
  rw [getElem!_pos (enc d[t / sz]!) (t % sz) hm]
 ·rw [List.getElem?_eq_none (show (Sort.flatK enc sz d).toList.length≤t by rw [Array.length_toList,Sort.size_flatK];exact ht),List.getElem?_eq_none (show (d.toList.flatMap enc).length≤t by rw [hl];exact ht)]
omit [Inhabited α] in
theorem own_heap (h:(rowR e sz enc s).ok w) (hA:s.A=some ⟨b,0,none⟩):∃cap cur,s.c=cap∧w.heap[b]? =some (.cells cur e (0,0))∧s.l.length≤cap∧cap≤maxLen∧cur.size=cap*sz∧cur.toList.take (s.l.length*sz)=s.l.flatMap enc:=by
 rcases (rowR_ok.1 h).1.2 with ⟨h1,_⟩|⟨g,cap,cur,h1,_,h2,h3⟩
 ·injection h1 with h1
  rw [hA] at h1
  cases h1
 ·injection h1 with h1 _ h4
  rw [hA] at h1
  cases h1
  exact ⟨cap,cur,h4,h2,h3⟩
theorem holdsK_own (h:(rowR e sz enc s).ok w) (hk:∀x,(enc x).length=sz) (hA:s.A=some ⟨b,0,none⟩):Sort.HoldsK enc sz w b 0 s.l.toArray:=by
 obtain ⟨cap,cur,_,h2,h3,h4,h5,h6⟩:=own_heap h hA
 intro t ht
 have hf:(Sort.flatK enc sz s.l.toArray).toList[t]? =some (Sort.flatK enc sz s.l.toArray)[t]! :=by rw [Array.getElem?_toList,Array.getElem?_eq_getElem ht,getElem!_pos _ t ht]
 rw [flatK_list hk,List.toList_toArray,←h6] at hf
 rw [Sort.size_flatK,List.size_toArray] at ht
 rw [List.getElem?_take_of_lt ht,Array.getElem?_toList] at hf
 constructor
 ·simp only [World.cell?,h2,Nat.zero_add,hf]
  rfl
 ·simp [World.frozen?,h2]
theorem sorted_mut (h:(rowR e sz enc s).ok w) (hk:∀x,(enc x).length=sz) (hA:s.A=some ⟨b,0,none⟩) (d':Array α) (hs:d'.size=s.l.length) (n:Nat) (os:Array Obj):
  Mut (rowR e sz enc s) (rowR e sz enc ⟨s.A,s.c,d'.toList⟩) w (sortWorldK enc sz w b 0 n d' os):=by
 obtain ⟨cap,cur,h1,h2,h3,h4,h5,h6⟩:=own_heap h hA
 have hb:b < w.heap.size:=heap_lt h2
 have hheap:∀k,k < w.heap.size→(sortWorldK enc sz w b 0 n d' os).heap[k]? =(w.heap.modify b (Sort.onCells (Sort.putCells id 0 (Sort.flatK enc sz d'))))[k]? :=fun k hk'=>by
  unfold sortWorldK
  rw [Sort.heap_grow_old _ _ (by show k < (Sort.putRow id _ _ _ _).heap.size;rw [Sort.size_putRow];exact hk')]
  rfl
 refine ⟨⟨rfl,rfl,rfl,?_,fun k hk' hn=>?_⟩,?_,fun c hc=>.inl (rowR_dom.2 ?_)⟩
 ·unfold sortWorldK
  rw [Sort.size_grow]
  show w.heap.size≤(Sort.putRow id _ _ _ _).heap.size+_
  rw [Sort.size_putRow]
  exact Nat.le_add_right _ _
 ·rw [hheap k hk',Array.getElem?_modify,if_neg]
  rintro rfl
  exact hn (rowR_dom.2 (by rw [Sl.v,hA];rfl))
 ·have hnew:(sortWorldK enc sz w b 0 n d' os).heap[b]? =some (.cells (Sort.putCells id 0 (Sort.flatK enc sz d') cur) e (0,0)):=by
   rw [hheap b hb,Array.getElem?_modify,if_pos rfl,h2]
   rfl
  have hfl:=flatK_list hk d'
  have hsz:(Sort.flatK enc sz d').size=s.l.length*sz:=by rw [Sort.size_flatK,hs]
  have hcap:s.l.length*sz≤cap*sz:=Nat.mul_le_mul_right _ h3
  refine rowR_ok.2 ⟨⟨?_, .inr ⟨b,cap,_,?_,Nat.zero_le _,hnew,?_,h4,?_,?_⟩⟩,fun x _=>hk x⟩
  ·rw [flat_len (fun x _=>hk x)]
  ·rw [Sl.v,hA,h1]
  ·rw [Array.length_toList,hs];exact h3
  ·rw [Sort.putCells,Array.size_mapIdx];exact h5
  ·rw [Array.length_toList,hs,←hfl]
   apply List.ext_getElem?
   intro t
   rcases Nat.lt_or_ge t (s.l.length*sz) with ht|ht
   ·rw [List.getElem?_take_of_lt ht,Array.getElem?_toList,Array.getElem?_toList,Sort.putCells,Array.getElem?_mapIdx,Array.getElem?_eq_getElem (show t < cur.size by omega),Array.getElem?_eq_getElem (show t < (Sort.flatK enc sz d').size by omega)]
    rw [Option.map_some,if_pos ⟨Nat.zero_le _,by omega⟩,Nat.sub_zero,getElem!_pos _ t (by omega)]
    rfl
   ·rw [List.getElem?_eq_none (by rw [List.length_take];omega),List.getElem?_eq_none (by rw [Array.length_toList];omega)]
 ·have h7:=rowR_dom.1 hc
  rw [Sl.v] at h7 ⊢
  rw [hA] at h7 ⊢
  exact h7
theorem sorted_pair {lt:α→α→Bool} {d:Array α} (h:Sort.SortedIn lt 0 d.size d):d.toList.Pairwise fun x y=>lt y x=false:=by
 rw [List.pairwise_iff_getElem]
 intro i j hi hj hij
 have:=h i j (Nat.zero_le _) hij (by simpa using hj)
 rw [getElem!_pos d i (by simpa using hi),getElem!_pos d j (by simpa using hj)] at this
 simpa using this
variable {P : Program} {ρ : Ren}
theorem sortf_any (L:SlLaysF0.n6 P ρ) (aE:∀w,(isAgg (ρ.t 24)).run P w= .ok true w) (zE:∀w,(Go.sizeOf (ρ.t 24)).run P w= .ok sz w) (hk:∀x,(enc x).length=sz) (h1:∀x,∀v∈enc x,v.oneCell'=true) (cf:α→α→Int) (hO:Sort.SWO (ltOf cf)) (g:Nat) (cb:Array Value)
  (eg:∀args w,(callFunc g args).run P w= .ok (.enter g args) w) (h:(rowR e sz enc s).ok w) (hm:s.l.length < 4611686018427387904)
  (hcmp:∀(x y:α) (W:World),Chg (rowR e sz enc s).dom w W→Calls P g (#[.agg (enc x).toArray, .agg (enc y).toArray]++cb) W fun e w'=>e= .returned (.int .i64 (cf x y))∧∃q os',w'=Sort.grow (W.drewN q) os'):
  Calls P (ρ.f 6) #[s.v, .func (.func g) #[] cb] w fun e' w'=>e'= .returned (.tuple #[])∧∃l':List α,l'.Perm s.l∧(l'.Pairwise fun x y=>ltOf cf y x=false)∧Mut (rowR e sz enc s) (rowR e sz enc ⟨s.A,s.c,l'⟩) w w':=by
 by_cases hA:s.A=none
 ·have hl:s.l= []:=by
   rcases (rowR_ok.1 h).1.2 with ⟨_,h1⟩|⟨g,cap,cur,h1,_⟩
   ·exact List.eq_nil_of_length_eq_zero h1
   ·injection h1 with h1
    rw [hA] at h1
    cases h1
  have e1:s.v= .slice none 0 s.c:=by rw [Sl.v,hA,hl];rfl
  rw [e1]
  refine (AnyF.slices_SortFunc_none L none s.c _ w).mono ?_
  rintro e' w' ⟨rfl,rfl⟩
  refine ⟨rfl,s.l, .refl _,by rw [hl];exact .nil,Mut.of0 h (Chg.refl _ _)⟩
 ·obtain ⟨b,hA⟩:∃b,s.A=some ⟨b,0,none⟩:=by
   rcases (rowR_ok.1 h).1.2 with ⟨h1,_⟩|⟨g,cap,cur,h1,_⟩
   ·injection h1 with h1
    exact (hA h1).elim
   ·injection h1 with h1
    exact ⟨g,h1⟩
  obtain ⟨cap,cur,_,h2,_⟩:=own_heap h hA
  have e1:s.v= .slice (some ⟨b,0,none⟩) s.l.toArray.size s.c:=by rw [Sl.v,hA];rfl
  rw [e1]
  refine (AnyQ.slices_SortFunc L sz aE zE enc hk h1 cf hO g cb b 0 s.c s.l.toArray w eg (fun m os dk hd x y=>hcmp x y _ (sorted_mut h hk hA dk (by rw [hd];rfl) m os).chg) (holdsK_own h hk hA) (heap_lt h2) hm).mono ?_
  rintro e' w' ⟨rfl,d',n,os,hp,hs,rfl⟩
  have hsz:d'.size=s.l.toArray.size:=hp.1
  refine ⟨rfl,d'.toList,?_,?_,sorted_mut h hk hA d' (by rw [hsz];rfl) n os⟩
  ·have h3:=hp.2.2
   rw [Array.extract_eq_self_of_le (by rw [hsz];exact Nat.le_refl _),Array.extract_eq_self_of_le (Nat.le_refl _)] at h3
   exact h3
  ·rw [←hsz] at hs
   exact sorted_pair hs
end
end Go.Proofs.YteabebmlclgakaaGreat
/- ShList: shelf.List: what a shelf has, in the order in which it came. -/
namespace Go.Proofs.YteabebmlclgakaaGreat
open Go.RowKit Go.Shelf Go.Lib
set_option maxRecDepth 100000
set_option maxHeartbeats 2000000
def srtE_ren : Go.Shelf.Ren := ⟨fun | 6 => 138 | 15 => 201 | 14 => 200 | 28 => 235 | 29 => 236 | 20 => 227 | 21 => 228 | 22 => 229 | 23 => 230 | 24 => 231 | 25 => 232 | 26 => 233 | 27 => 234 | 46 => 258 | 47 => 259 | 48 => 260 | 49 => 261 | 50 => 262 | 57 => 276 | n => n, fun | 22 => 207 | 24 => 209 | 25 => 211 | 3 => 3 | 39 => 278 | 0 => 0 | 53 => 24 | 55 => 85 | 4 => 4 | 46 => 306 | 45 => 305 | 50 => 310 | 5 => 5 | 9 => 9 | 66 => 335 | 70 => 339 | 76 => 353 | 77 => 354 | n => n, fun | n => n⟩
theorem srtE : Go.Proofs.SlLaysF0.n6 Tryz.prog srtE_ren := {
  mixed := by kernel_rfl
  f6 := ⟨Tryz.f138.name, by decide, Tryz.func138.trans (congrArg some (by kernel_rfl))⟩
  f14 := ⟨Tryz.f200.name, by decide, Tryz.func200.trans (congrArg some (by kernel_rfl))⟩
  f15 := Tryz.func201.trans (congrArg some (by kernel_rfl))
  f20 := ⟨Tryz.f227.name, by decide, Tryz.func227.trans (congrArg some (by kernel_rfl))⟩
  f21 := ⟨Tryz.f228.name, by decide, Tryz.func228.trans (congrArg some (by kernel_rfl))⟩
  f22 := ⟨Tryz.f229.name, by decide, Tryz.func229.trans (congrArg some (by kernel_rfl))⟩
  f23 := ⟨Tryz.f230.name, by decide, Tryz.func230.trans (congrArg some (by kernel_rfl))⟩
  f24 := ⟨Tryz.f231.name, by decide, Tryz.func231.trans (congrArg some (by kernel_rfl))⟩
  f25 := ⟨Tryz.f232.name, by decide, Tryz.func232.trans (congrArg some (by kernel_rfl))⟩
  f26 := ⟨Tryz.f233.name, by decide, Tryz.func233.trans (congrArg some (by kernel_rfl))⟩
  f27 := ⟨Tryz.f234.name, by decide, Tryz.func234.trans (congrArg some (by kernel_rfl))⟩
  f28 := Tryz.func235.trans (congrArg some (by kernel_rfl))
  f29 := Tryz.func236.trans (congrArg some (by kernel_rfl))
  f46 := ⟨Tryz.f258.name, by decide, Tryz.func258.trans (congrArg some (by kernel_rfl))⟩
  f47 := Tryz.func259.trans (congrArg some (by kernel_rfl))
  f48 := Tryz.func260.trans (congrArg some (by kernel_rfl))
  f49 := ⟨Tryz.f261.name, by decide, Tryz.func261.trans (congrArg some (by kernel_rfl))⟩
  f50 := ⟨Tryz.f262.name, by decide, Tryz.func262.trans (congrArg some (by kernel_rfl))⟩
  f57 := ⟨Tryz.f276.name, by decide, Tryz.func276.trans (congrArg some (by kernel_rfl))⟩
  t0 := Tryz.underlying0
  a0 := Tryz.isAgg0
  z0 := Tryz.sizeOf0
  v0 := Tryz.zeroValue0
  t3 := Tryz.underlying3
  a3 := Tryz.isAgg3
  z3 := Tryz.sizeOf3
  v3 := Tryz.zeroValue3
  t4 := Tryz.underlying4
  a4 := Tryz.isAgg4
  z4 := Tryz.sizeOf4
  v4 := Tryz.zeroValue4
  t5 := Tryz.underlying5
  a5 := Tryz.isAgg5
  z5 := Tryz.sizeOf5
  v5 := Tryz.zeroValue5
  t9 := Tryz.underlying9
  a9 := Tryz.isAgg9
  z9 := Tryz.sizeOf9
  v9 := Tryz.zeroValue9
  t22 := Tryz.underlying207
  a22 := Tryz.isAgg207
  z22 := Tryz.sizeOf207
  v22 := Tryz.zeroValue207
  t25 := Tryz.underlying211
  a25 := Tryz.isAgg211
  z25 := Tryz.sizeOf211
  v25 := Tryz.zeroValue211
  t39 := Tryz.underlying278
  a39 := Tryz.isAgg278
  z39 := Tryz.sizeOf278
  v39 := Tryz.zeroValue278
  t45 := Tryz.underlying305
  a45 := Tryz.isAgg305
  z45 := Tryz.sizeOf305
  v45 := Tryz.zeroValue305
  t46 := Tryz.underlying306
  a46 := Tryz.isAgg306
  z46 := Tryz.sizeOf306
  v46 := Tryz.zeroValue306
  t50 := Tryz.underlying310
  a50 := Tryz.isAgg310
  z50 := Tryz.sizeOf310
  v50 := Tryz.zeroValue310
  t53 := Tryz.underlying24
  a53 := Tryz.isAgg24
  z53 := Tryz.sizeOf24
  v53 := Tryz.zeroValue24
  t55 := Tryz.underlying85
  a55 := Tryz.isAgg85
  z55 := Tryz.sizeOf85
  v55 := Tryz.zeroValue85
  t66 := Tryz.underlying335
  a66 := Tryz.isAgg335
  z66 := Tryz.sizeOf335
  v66 := Tryz.zeroValue335
  t70 := Tryz.underlying339
  a70 := Tryz.isAgg339
  z70 := Tryz.sizeOf339
  v70 := Tryz.zeroValue339
  t76 := Tryz.underlying353
  a76 := Tryz.isAgg353
  z76 := Tryz.sizeOf353
  v76 := Tryz.zeroValue353
  t77 := Tryz.underlying354
  a77 := Tryz.isAgg354
  z77 := Tryz.sizeOf354
  v77 := Tryz.zeroValue354 }
structure EntS where
 e:Ent
 ok:0≤e.place∧e.place≤100000
instance:Inhabited EntS:=⟨⟨Ent.z,by decide⟩⟩
abbrev EntS.c (x:EntS):List Value:=x.e.c
def cmpE (x y:EntS):Int:=x.e.place - y.e.place
theorem ltE (x y:EntS):ltOf cmpE x y=decide (x.e.place < y.e.place):=by
 unfold ltOf cmpE
 congr 1
 apply propext
 omega
theorem swoE:Sort.SWO (ltOf cmpE) where
 irrefl x:=by rw [ltE];simp
 trans x y z h1 h2:=by rw [ltE] at*;simp at*;omega
 ntrans x y z h1 h2:=by rw [ltE] at*;simp at*;omega
theorem el_ent:ElT Tryz.prog 207 209 20 56:=elt_of (z:=Ent.z.v) Tryz.underlying207 (by kernel_rfl) rfl (by omega)
theorem ent_one (x:EntS):∀u∈EntS.c x,u.oneCell'=true:=fun u hu=>by
 simp only [EntS.c,Ent.c,List.mem_cons,List.not_mem_nil,or_false] at hu
 rcases hu with rfl|rfl|rfl|rfl|rfl|rfl|rfl|rfl|rfl|rfl|rfl|rfl|rfl|rfl|rfl|rfl|rfl|rfl|rfl|rfl<;>rfl
theorem cmpE_any (x y:EntS) (W:World):Calls Tryz.prog 139 #[x.e.v,y.e.v] W fun e w'=>e= .returned (.int .i64 (cmpE x y))∧∃q os',w'=Sort.grow (W.drewN q) os':=by
 have h1:=x.ok
 have h2:=y.ok
 have hw:IntKind.i64.wrap (x.e.place - y.e.place)=x.e.place - y.e.place:=by simp [IntKind.wrap,IntKind.bits,IntKind.signed];omega
 unfold cmpE
 go_enter Tryz.func139,Tryz.ntmps139
 go_wp2
 go_ret
 exact ⟨rfl,0,_,by rw [Sort.alloc_eq_grow,Sort.alloc_eq_grow,Sort.grow_grow];rfl⟩
theorem shlist_any {w0:World} {b:Nat} {g:Shf} {W:List BlP} (h:ShAt w0 b g) (hI:ShI g W):Calls Tryz.prog 82 #[ptr b] w0 fun e w'=>∃r:Sl Blob,r.l.map (·.p)=W∧e= .returned r.v∧Made (star (blobsR r)) w0 w':=by
 have hp:=Hp.start (S:=N0) w0
 have um:=Tryz.underlying176
 have us:=Tryz.underlying207
 obtain ⟨es,clock,hM⟩:=h.map.getEs
 obtain ⟨pl,hWp,hperm,hla⟩:=la_ok hI h.map.nodup
 have hmany:=hI.many
 have hlen:=hI.len
 have hB:∀b,N0 b→w0.heap.size≤b:=fun _ hh=>hh.elim
 refine calls_x (args:= [_]) tabOk Tryz.func82 Tryz.ntmps82 Tryz.results82 rfl (Nat.le_of_ble_eq_true rfl) ?_
 ((conv=>whnf);repeat' ((first|((with_reducible refine br_id ?_);(with_reducible refine br_f ?_))|((with_reducible refine ld_id ?_);((refine ld_of (hp.chg.cell0 h.c2) ?_)))|((with_reducible refine gen_id ?_);((refine gen_range rfl hp rfl um (hM.keep0 hp.chg) ?_);clear hp;intro ib w hp))|((with_reducible refine cl_id ?_);((refine cl_eq ((shnone_any (hp.chg.cell0 h.c2))) rfl rfl ?_;rintro e w ⟨rfl,hcc⟩;replace hp:=hp.call0 hcc;refine ⟨_,rfl,?_⟩))))<;>(conv=>whnf)))
 replace hp:=hp.nilRow 209 20 EntS.c
 refine lp_inv (α:=List Nat×Sl EntS) (fun a=> [(3,a.2.v),(15,ptr ib)]) (fun a w=>a.1.Nodup∧(∀i∈a.1,i < g.la.length)∧(a.2.l.map fun x=>some x.e)=(a.1.map fun i=>(g.la[i]?).map (·.2))∧Hp N0 w0 w [rowR 209 20 EntS.c a.2,itR ib g.am es clock a.1]) (fun a=>g.la.length - a.1.length) ([],Sl.nil) (by (repeat' (first|exact trivial|(refine ⟨rfl,?_⟩)))) ⟨.nil,by simp,rfl,hp⟩ ?_
 clear hp
 rintro ⟨done,s⟩ e0 w ⟨hn,hd,hs,hp⟩
 dsimp only at hn hd hs hp ⊢
 ((conv=>whnf);repeat' ((first|((with_reducible refine br_id ?_);first|(with_reducible refine br_t ?_)|(with_reducible refine br_f ?_)|(with_reducible refine br_not ?_)|((with_reducible refine br_dec (fun hx=>?_) (fun hx=>?_))<;>(try (exfalso;first|omega|contradiction)))|((with_reducible refine br_eq (fun hx=>?_) (fun hx=>?_))<;>(try (exfalso;first|omega|contradiction)))|((with_reducible refine br_ne (fun hx=>?_) (fun hx=>?_))<;>(try (exfalso;first|omega|contradiction)))|((with_reducible refine br_s (fun hx=>?_) (fun hx=>?_))<;>(try (exfalso;first|omega|contradiction))))|((with_reducible refine ar_id ?_);first|(refine ar_i64 (by omega) ?_)|(refine ar_u32 (by omega) ?_)|(refine ar_u64 (by omega) ?_)|(refine ar_u8 (by omega) ?_))|((with_reducible refine cn_id ?_);first|(refine cn rfl ?_)|(refine cn ‹_› ?_)|(refine cn (by omega) ?_)|(refine cn (Chg.refl _ _) ?_))|((with_reducible refine ld_id ?_);first|(apply ld_hs hp;(focus repeat' constructor);exact rfl)|(refine ld_of ‹_› ?_))|((with_reducible refine ldn_id ?_);first|(apply lda_hs hp;(focus repeat' constructor);exact rfl)|(apply ldn_hs hp;(focus repeat' constructor);exact rfl;exact rfl))|((with_reducible refine al_id ?_);(refine al_cel hp ?_;clear hp;intro bb w hp))|((with_reducible refine st_id ?_);first|(apply sta_hs hp;(focus repeat' constructor);exact rfl;exact rfl;clear hp;intro w hp;(try dsimp only [List.set] at hp))|(apply st_hs hp;(focus repeat' constructor);exact rfl;exact rfl;clear hp;intro w hp;(try dsimp only [List.set] at hp)))|((with_reducible refine gen_id ?_);first|(apply gen_build;exact rfl;exact rfl)|(apply gen_len;exact rfl;exact rfl;assumption)|(apply gen_min;exact rfl;exact rfl;exact rfl)|(apply gen_max;exact rfl;exact rfl;exact rfl)|(apply gen_ix;exact rfl;exact rfl;exact rfl;exact rfl;omega)|(apply gen_ixa;exact rfl;exact rfl;exact rfl;exact rfl;omega))|((with_reducible refine dr_id ?_);first|(refine dr_auto tabOk (by kernel_rfl) (by decide+kernel) ?_;(try replace hp:=hp.drew))|(refine dr_autog tabOk (by kernel_rfl) (by decide+kernel) ?_;(try replace hp:=hp.drew))|(refine dr_autot tabOk (by kernel_rfl) (by decide+kernel) ?_;(try replace hp:=hp.drew)))|((with_reducible refine fk_id ?_);(refine fk_mk ?_ ?_))|((with_reducible refine rd_id ?_);first|(apply rd_len;exact rfl;exact rfl;assumption)|(apply rd_ix;exact rfl;exact rfl;exact rfl;exact rfl;omega)))<;>(conv=>whnf)))
 refine gen_next rfl hp 1 rfl rfl (hM.keep0 hp.chg) hd (fun hall=>?_) (fun i p w hi hni hp'=>?_)
 ·have hpe:=met_all hn hd hall (fun q:Key×Ent=>q.2)
  rw [←hs] at hpe
  have hsp:(s.l.map (·.e)).Perm (g.la.map (·.2)):=perm_some (by rw [List.map_map,List.map_map];exact hpe)
  have hsl:s.l.length≤10000:=by
   have:=hsp.length_eq
   rw [List.length_map,List.length_map] at this
   omega
  clear hpe
  ((conv=>whnf);repeat' (((with_reducible refine br_id ?_);(with_reducible refine br_f ?_))<;>(conv=>whnf)))
  refine cl_eq (sortf_any (enc:=EntS.c) srtE Tryz.isAgg209 Tryz.sizeOf209 (fun _=>rfl) ent_one cmpE swoE 139 #[] (enters_of Tryz.func139 (by kernel_rfl) rfl) (hp.get (j:=0) rfl) (by omega) (fun x y W _=>cmpE_any x y W)) rfl rfl ?_
  rintro e w ⟨rfl,l',hl',hsrt,hmt⟩
  replace hp:=hp.via (j:=0) rfl hmt
  clear hmt
  dsimp only [List.set] at hp
  refine ⟨_,rfl,?_⟩
  replace hp:=(hp.sub (rs':= [rowR 209 20 EntS.c ⟨s.A,s.c,l'⟩]) (.cons_cons _ (List.nil_sublist _))).nilRow 40 19 Blob.c
  have hll:l'.length=s.l.length:=hl'.length_eq
  have hmem:∀x∈l',∃p∈g.la,p.2=x.e:=fun x hx=>by
   have h1:=hsp.mem_iff.1 (List.mem_map_of_mem (hl'.mem_iff.1 hx))
   obtain ⟨p,hp,he⟩:=List.mem_map.1 h1
   exact ⟨p,hp,he⟩
  have hW:l'.map (·.e.blob.p)=W:=in_order hWp (((hl'.map _).trans (by have h1:=hsp.map (·.blob.p);rw [List.map_map,List.map_map] at h1;exact h1)).trans hperm) (by
   rw [List.pairwise_map]
   refine hsrt.imp_of_mem fun {x y} hx hy hxy=>?_
   rw [ltE] at hxy
   obtain ⟨p,hp,he⟩:=hmem x hx
   obtain ⟨q,hq,he2⟩:=hmem y hy
   have h1:=(hla p hp).1
   have h2:=(hla q hq).1
   rw [he] at h1
   rw [he2] at h2
   rw [←h1,←h2]
   simpa using hxy)
  ((conv=>whnf);repeat' (((with_reducible refine gen_id ?_);(apply gen_len;exact rfl;exact rfl;assumption))<;>(conv=>whnf)))
  refine lp_inv (α:=Nat×Sl Blob) (fun a=> [(6,a.2.v),(26,s.v),(27,i64 s.l.length),(28,i64 a.1)]) (fun a w=>a.1≤s.l.length∧a.2.l.map (·.p)=(l'.take a.1).map (·.e.blob.p)∧Hp N0 w0 w (rowR 40 19 Blob.c a.2::rowR 209 20 EntS.c ⟨s.A,s.c,l'⟩::a.2.l.map dataR)) (fun a=>s.l.length - a.1) (0,Sl.nil) (by (repeat' (first|exact trivial|(refine ⟨rfl,?_⟩)))) ⟨by omega,rfl,hp⟩ ?_
  clear hp hs hd hall hn
  rintro ⟨i,o⟩ e0 w ⟨hi,ho,hp⟩
  dsimp only at hi ho hp ⊢
  have hol:o.l.length≤i:=by
   have:=congrArg List.length ho
   rw [List.length_map,List.length_map,List.length_take] at this
   omega
  rcases Nat.lt_or_ge i s.l.length with hlt|hge
  ·obtain ⟨x,hxx⟩:∃x,l'[i]? =some x:=⟨_,List.getElem?_eq_getElem (by omega)⟩
   obtain ⟨b1,o1,hA⟩:∃b o,s.A=some ⟨b,o,none⟩:=by
    rcases own_place (hp.get (j:=1) rfl) with h0|h0
    ·have h0:l'.length=0:=h0
     omega
    ·exact h0
   obtain ⟨p,hpl,hpx⟩:=hmem x (List.mem_of_getElem? hxx)
   have hdat:=h.data p hpl
   have hpW:=(la_at hI h.map.nodup hpl).2.1
   have hd6:=hI.data _ hpW
   rw [hpx] at hdat hd6
   have hd6':x.e.blob.data.l.length≤600:=hd6
   ((conv=>whnf);repeat' ((first|((with_reducible refine br_id ?_);((with_reducible refine br_dec (fun hx=>?_) (fun hx=>?_))<;>(try (exfalso;first|omega|contradiction))))|((with_reducible refine cn_id ?_);(refine cn rfl ?_))|((with_reducible refine ldn_id ?_);first|((refine ldn_ownx hp 1 rfl hA _ rfl hxx rfl ?_))|(apply ldn_hs hp;(focus repeat' constructor);exact rfl;exact rfl))|((with_reducible refine al_id ?_);(refine al_cel hp ?_;clear hp;intro bb w hp))|((with_reducible refine st_id ?_);(apply sta_hs hp;(focus repeat' constructor);exact rfl;exact rfl;clear hp;intro w hp;(try dsimp only [List.set] at hp)))|((with_reducible refine gen_id ?_);((refine gen_ixs rfl rfl hA rfl rfl (by omega) ?_))))<;>(conv=>whnf)))
   refine cl_eq (shown_any x.e.blob (hdat.keep hp.chg hB) (by omega)) rfl rfl ?_
   rintro e w ⟨r,hr,rfl,hmd⟩
   replace hp:=hp.add hmd
   clear hmd
   refine ⟨_,rfl,?_⟩
   obtain ⟨xb,hxb⟩:∃xb:Blob,xb={x.e.blob with data:=r}:=⟨_,rfl⟩
   rw [show (⟨x.e.blob.key,x.e.blob.hint,r⟩:Blob)=xb from hxb.symm]
   ((conv=>whnf);repeat' ((first|((with_reducible refine ar_id ?_);(refine ar_i64 (by omega) ?_))|((with_reducible refine gen_id ?_);first|((refine gen_bs rfl hp el_blob Blob.c [xb] [Blob.v xb] rfl rfl rfl (fun _ hh=>by simp at hh;subst hh;rfl) (by omega) ?_);clear hp;intro br w hp)|((refine gen_app (s:=o) rfl hp 3 rfl el_blob rfl ⟨some ⟨br,0,none⟩,1, [xb]⟩ rfl (hp.row (j:=0) rfl) (fun _ _=>rfl) blob_one (by simp only [List.length_cons,List.length_nil];omega) (by simp only [maxLen,List.length_cons,List.length_nil];omega) ?_);clear hp;intro A2 c2 w hp;dsimp only [List.set] at hp)))<;>(conv=>whnf)))
   have hdr:dataR xb=rowR 5 1 u8L r:=by rw [hxb]
   replace hp:=(hp.tail.sub (.cons_cons _ (.cons _ (.refl _)))).perm (List.perm_append_singleton _ _).symm
   refine lp_next (i+1,⟨A2,c2,o.l++ [xb]⟩) (by show s.l.length - (i+1) < s.l.length - i;omega) (by (repeat' (first|exact trivial|(refine ⟨rfl,?_⟩)))) ⟨by show i+1≤_;omega,?_,?_⟩
   ·show (o.l++ [xb]).map _=(l'.take (i+1)).map _
    rw [List.map_append,ho,List.take_add_one,hxx,List.map_append,hxb]
    simp [Blob.p,hr]
   ·show Hp N0 w0 w (_::_::(o.l++ [xb]).map dataR)
    rw [List.map_append,List.map_singleton,hdr]
    exact hp
  ·rw [List.take_of_length_le (by omega),hW] at ho
   ((conv=>whnf);repeat' (((with_reducible refine br_id ?_);((with_reducible refine br_dec (fun hx=>?_) (fun hx=>?_))<;>(try (exfalso;first|omega|contradiction))))<;>(conv=>whnf)))
   exact ps_val (v':=o.v) rfl ⟨o,ho,rfl,(hp.sub ((List.sublist_cons_self _ _).cons_cons _)).made (.refl _)⟩
 ·clear hp
  have hp:=hp'
  clear hp'
  dsimp only [List.set] at hp
  have hpm:=hla p (List.mem_of_getElem? hi)
  obtain ⟨pk,pe⟩:=p
  obtain ⟨x,rfl⟩:∃x:EntS,x.e=pe:=⟨⟨pe,hpm.2⟩,rfl⟩
  have hsl:s.l.length=done.length:=by
   have:=congrArg List.length hs
   rwa [List.length_map,List.length_map] at this
  have hdl:done.length < g.la.length:=by
   have h1:(done++ [i]).Nodup:=List.nodup_append.2 ⟨hn,by simp,fun a ha b hb e=>by simp at hb;subst hb;subst e;exact hni ha⟩
   have h2:∀j∈done++ [i],j∈List.range g.la.length:=fun j hj=>by
    rcases List.mem_append.1 hj with hj|hj
    ·exact List.mem_range.2 (hd j hj)
    ·simp at hj
     subst hj
     exact List.mem_range.2 (List.getElem?_eq_some_iff.1 hi).1
   have h3:=h1.length_le_of_subset h2
   rw [List.length_append,List.length_range] at h3
   exact h3
  ((conv=>whnf);repeat' ((first|((with_reducible refine br_id ?_);(with_reducible refine br_t ?_))|((with_reducible refine cn_id ?_);(refine cn rfl ?_))|((with_reducible refine ldn_id ?_);(apply lda_hs hp;(focus repeat' constructor);exact rfl))|((with_reducible refine al_id ?_);(refine al_cel hp ?_;clear hp;intro bb w hp))|((with_reducible refine st_id ?_);(apply sta_hs hp;(focus repeat' constructor);exact rfl;exact rfl;clear hp;intro w hp;(try dsimp only [List.set] at hp)))|((with_reducible refine gen_id ?_);first|((refine gen_entry rfl hp 1 (i:=i) (done:=done) rfl rfl (hM.keep0 hp.chg) hi ?_))|((refine gen_bs rfl hp el_ent EntS.c [x] [Ent.v x.e] rfl rfl rfl (fun _ hh=>by simp at hh;subst hh;rfl) (by omega) ?_);clear hp;intro br w hp)|((refine gen_app (s:=s) rfl hp 2 rfl el_ent rfl ⟨some ⟨br,0,none⟩,1, [x]⟩ rfl (hp.row (j:=0) rfl) (fun _ _=>rfl) (fun x _=>ent_one x) (by simp only [List.length_cons,List.length_nil];omega) (by simp only [maxLen,List.length_cons,List.length_nil];omega) ?_);clear hp;intro A2 c2 w hp;dsimp only [List.set] at hp)))<;>(conv=>whnf)))
  refine lp_next (done++ [i],⟨A2,c2,s.l++ [x]⟩) (by show g.la.length - (done++ [i]).length < g.la.length - done.length;rw [List.length_append];simp;omega) (by (repeat' (first|exact trivial|(refine ⟨rfl,?_⟩)))) ⟨List.nodup_append.2 ⟨hn,by simp,fun a ha b hb e=>by simp at hb;subst hb;subst e;exact hni ha⟩,fun j hj=>?_,?_,hp.tail.tail⟩
  ·rcases List.mem_append.1 hj with hj|hj
   ·exact hd j hj
   ·simp at hj
    subst hj
    exact (List.getElem?_eq_some_iff.1 hi).1
  ·show (s.l++ [x]).map _=(done++ [i]).map _
   rw [List.map_append,List.map_append,hs,List.map_singleton,List.map_singleton,hi]
   rfl
end Go.Proofs.YteabebmlclgakaaGreat
