/- MRespondEvicted26: Job4, Job5, Job6, Job7, Book5, Shelf4, Shelf5, Shelf6, Shelf7, ShListP, SortF. -/
import Derived.Test.YteabebmlclgakaaGreatMRespondEvicted25
import Derived.Test.YteabebmlclgakaaGreatMRespondEvicted18
import Derived.Test.YteabebmlclgakaaGreatMRespondEvicted22
import Derived.Test.YteabebmlclgakaaGreatMRespondEvicted9
import Derived.Test.YteabebmlclgakaaGreatMRespondEvicted4
import Derived.Test.YteabebmlclgakaaGreatMRespondEvictedsSlice
import Derived.Shelf.SlSortCmp.NoneTotal
set_option linter.unusedSimpArgs false
set_option linter.unusedVariables false
/- Job4: the table of jobs: the list of all; which tier is live. -/
namespace Go.Proofs.YteabebmlclgakaaGreat
open Go.RowKit
set_option maxRecDepth 100000
set_option maxHeartbeats 4000000
theorem mapR_congr {κ ν:Type} {enc:κ→Value} {val:ν→Value} {b:Nat} {l l':List (κ×ν)} (h:l.map (fun p=>(enc p.1,val p.2))=l'.map (fun p=>(enc p.1,val p.2))):mapR enc val b l=mapR enc val b l':=by
 have h1:(fun w=>MapAt enc val w b l)=(fun w=>MapAt enc val w b l'):=funext fun w=>by unfold MapAt;rw [h]
 rw [mapR,mapR,Res.mk.injEq]
 exact ⟨rfl,h1⟩
theorem Mut.frame {w w':World} {r r':Res} {rs:List Res} (m:Mut r r' w w') (h:(star (r::rs)).ok w):Mut (star (r::rs)) (star (r'::rs)) w w':=((Hp.open h).via (j:=0) rfl m).shut (.refl _)
theorem set_sameR {α:Type} {l:List α} {i:Nat} {a:α} (h:l[i]? =some a):l.set i a=l:=by
 apply List.ext_getElem?
 intro j
 rw [List.getElem?_set]
 split
 ·rename_i hij
  subst hij
  rw [h]
  have:=(List.getElem?_eq_some_iff.1 h).1
  simp [this]
 ·rfl
theorem map_set_sameR {α β:Type} {f:α→β} {E:List α} {i:Nat} {z z':α} (hz:E[i]? =some z) (h:f z'=f z):(E.set i z').map f=E.map f:=by
 rw [List.map_set,h]
 exact set_sameR (by rw [List.getElem?_map,hz];rfl)
def setL (x:EntB) (t:Int):EntB:={x with job:={x.job with live:=t}}
abbrev setP (p:Key×EntB) (t:Int):Key×EntB:=(p.1,setL p.2 t)
theorem jt_live {S:Nat→Prop} {w0 w w':World} {b m:Nat} {ord:Sl Key} {l:List (Key×EntB)} {i:Nat} {p:Key×EntB} {t:Int} (hp:Hp S w0 w (jtRs b m ord l)) (hi:l[i]? =some p) (hm:Mut (cel p.2.b 198 (EntB.c p.2).toArray) (cel p.2.b 198 (EntB.c (setL p.2 t)).toArray) w w'):Hp S w0 w' (jtRs b m ord (l.set i (setP p t))):=by
 have hj:(jtRs b m ord l)[i+3]? =some (jentR p):=by
  show (l.map jentR)[i]? =_
  rw [List.getElem?_map,hi]
  rfl
 have m2:Mut (jentR p) (jentR (setP p t)) w w':=hm.frame (show (star (jentRs p)).ok w from hp.get hj)
 have h1:=hp.via hj m2
 have h2:mapR Key.v ptO m (ol (l.set i (setP p t)))=mapR Key.v ptO m (ol l):=mapR_congr (by
  unfold ol
  rw [List.map_map,List.map_map]
  exact map_set_sameR hi rfl)
 unfold jtRs
 rw [h2,List.map_set]
 exact h1
theorem set_upd {ν:Type} {f:Key×ν→Key×ν}:∀{l:List (Key×ν)} {i:Nat} {p:Key×ν},(l.map (·.1)).Nodup→l[i]? =some p→l.set i (f p)=l.map fun a=>if a.1=p.1 then f a else a
 | [],i,p,_,h=>by simp at h
 |a::l,0,p,hn,h=>by
  cases h
  rw [List.map_cons,List.nodup_cons] at hn
  rw [List.set_cons_zero,List.map_cons,if_pos rfl]
  congr 1
  symm
  rw [List.map_congr_left (g:=id) fun c hc=>?_,List.map_id]
  exact if_neg fun e:c.1=a.1=>hn.1 (e▸List.mem_map_of_mem hc)
 |a::l,i+1,p,hn,h=>by
  rw [List.map_cons,List.nodup_cons] at hn
  have h':l[i]? =some p:=h
  rw [List.set_cons_succ,List.map_cons,set_upd hn.2 h',if_neg fun e:a.1=p.1=>hn.1 (e▸List.mem_map_of_mem (List.mem_of_getElem? h'))]
theorem ldn_pre {w:World} {b n:Nat} {t:TypeId} {cs vs:List Value} {a:Addr} {k:Value→Prop} (h:w.heap[b]? =some (.cells cs.toArray t)) (ha:a=⟨b,0,none⟩) (hj:cs.take n=vs) (hn:vs.length=n) (hk:k (.agg vs.toArray)):LdN w a n k:=by
 subst ha
 refine ldn_of hn (fun q v hv=>?_) hk
 rw [add_plain]
 have hq:q < n:=by
  have:=(List.getElem?_eq_some_iff.1 hv).1
  omega
 refine cell_of_heap h ?_
 rw [←hj,List.getElem?_take_of_lt hq] at hv
 simpa using hv
theorem listK_any {w0:World} (v:Value):Calls Tryz.prog 125 #[v] w0 fun e w'=>e= .returned (.bool true)∧Chg N0 w0 w':=by
 have hp:=Hp.start (S:=N0) w0
 refine calls_x (args:= [_]) tabOk Tryz.func125 Tryz.ntmps125 Tryz.results125 rfl (Nat.le_of_ble_eq_true rfl) ?_
 ((conv=>whnf);repeat' ((first|((with_reducible refine br_id ?_);first|(with_reducible refine br_t ?_)|(with_reducible refine br_f ?_)|(with_reducible refine br_not ?_)|((with_reducible refine br_dec (fun hx=>?_) (fun hx=>?_))<;>(try (exfalso;first|omega|contradiction)))|((with_reducible refine br_eq (fun hx=>?_) (fun hx=>?_))<;>(try (exfalso;first|omega|contradiction)))|((with_reducible refine br_ne (fun hx=>?_) (fun hx=>?_))<;>(try (exfalso;first|omega|contradiction)))|((with_reducible refine br_s (fun hx=>?_) (fun hx=>?_))<;>(try (exfalso;first|omega|contradiction))))|((with_reducible refine ar_id ?_);first|(refine ar_i64 (by omega) ?_)|(refine ar_u32 (by omega) ?_)|(refine ar_u64 (by omega) ?_)|(refine ar_u8 (by omega) ?_))|((with_reducible refine cn_id ?_);first|(refine cn rfl ?_)|(refine cn ‹_› ?_)|(refine cn (by omega) ?_)|(refine cn (Chg.refl _ _) ?_))|((with_reducible refine ld_id ?_);first|(apply ld_hs hp;(focus repeat' constructor);exact rfl)|(refine ld_of ‹_› ?_))|((with_reducible refine ldn_id ?_);first|(apply lda_hs hp;(focus repeat' constructor);exact rfl)|(apply ldn_hs hp;(focus repeat' constructor);exact rfl;exact rfl))|((with_reducible refine al_id ?_);(refine al_cel hp ?_;clear hp;intro bb w hp))|((with_reducible refine st_id ?_);first|(apply sta_hs hp;(focus repeat' constructor);exact rfl;exact rfl;clear hp;intro w hp;(try dsimp only [List.set] at hp))|(apply st_hs hp;(focus repeat' constructor);exact rfl;exact rfl;clear hp;intro w hp;(try dsimp only [List.set] at hp)))|((with_reducible refine gen_id ?_);first|(apply gen_build;exact rfl;exact rfl)|(apply gen_len;exact rfl;exact rfl;assumption)|(apply gen_min;exact rfl;exact rfl;exact rfl)|(apply gen_max;exact rfl;exact rfl;exact rfl)|(apply gen_ix;exact rfl;exact rfl;exact rfl;exact rfl;omega)|(apply gen_ixa;exact rfl;exact rfl;exact rfl;exact rfl;omega))|((with_reducible refine dr_id ?_);first|(refine dr_auto tabOk (by kernel_rfl) (by decide+kernel) ?_;(try replace hp:=hp.drew))|(refine dr_autog tabOk (by kernel_rfl) (by decide+kernel) ?_;(try replace hp:=hp.drew))|(refine dr_autot tabOk (by kernel_rfl) (by decide+kernel) ?_;(try replace hp:=hp.drew)))|((with_reducible refine fk_id ?_);(refine fk_mk ?_ ?_))|((with_reducible refine rd_id ?_);first|(apply rd_len;exact rfl;exact rfl;assumption)|(apply rd_ix;exact rfl;exact rfl;exact rfl;exact rfl;omega)))<;>(conv=>whnf)))
 exact ps_val (v':= .bool true) rfl ⟨rfl,hp.chg⟩
theorem jlist_any {w0:World} {b m:Nat} {ord:Sl Key} {l:List (Key×EntB)} (h:JtAt w0 b m ord l) (hI:JtI ord.l l) (hmany:l.length≤100000):Calls Tryz.prog 74 #[ptr b] w0 fun e w'=>∃r:Sl Job,r.l.map Job.p=l.map (fun p=>p.2.job.p)∧e= .returned r.v∧Made (star (jobRs r)) w0 w':=by
 have hp:=Hp.start (S:=N0) w0
 have u1:=Tryz.underlying64
 have um:=Tryz.underlying179
 have hB:∀b,N0 b→w0.heap.size≤b:=fun _ hh=>hh.elim
 refine calls_x (args:= [_]) tabOk Tryz.func74 Tryz.ntmps74 Tryz.results74 rfl (Nat.le_of_ble_eq_true rfl) ?_
 ((conv=>whnf);repeat' ((first|((with_reducible refine br_id ?_);first|(with_reducible refine br_t ?_)|(with_reducible refine br_f ?_)|(with_reducible refine br_not ?_)|((with_reducible refine br_dec (fun hx=>?_) (fun hx=>?_))<;>(try (exfalso;first|omega|contradiction)))|((with_reducible refine br_eq (fun hx=>?_) (fun hx=>?_))<;>(try (exfalso;first|omega|contradiction)))|((with_reducible refine br_ne (fun hx=>?_) (fun hx=>?_))<;>(try (exfalso;first|omega|contradiction)))|((with_reducible refine br_s (fun hx=>?_) (fun hx=>?_))<;>(try (exfalso;first|omega|contradiction))))|((with_reducible refine ar_id ?_);first|(refine ar_i64 (by omega) ?_)|(refine ar_u32 (by omega) ?_)|(refine ar_u64 (by omega) ?_)|(refine ar_u8 (by omega) ?_))|((with_reducible refine cn_id ?_);first|(refine cn rfl ?_)|(refine cn ‹_› ?_)|(refine cn (by omega) ?_)|(refine cn (Chg.refl _ _) ?_))|((with_reducible refine ld_id ?_);first|(apply ld_hs hp;(focus repeat' constructor);exact rfl)|(refine ld_of ‹_› ?_))|((with_reducible refine ldn_id ?_);first|(apply lda_hs hp;(focus repeat' constructor);exact rfl)|(apply ldn_hs hp;(focus repeat' constructor);exact rfl;exact rfl))|((with_reducible refine al_id ?_);(refine al_cel hp ?_;clear hp;intro bb w hp))|((with_reducible refine st_id ?_);first|(apply sta_hs hp;(focus repeat' constructor);exact rfl;exact rfl;clear hp;intro w hp;(try dsimp only [List.set] at hp))|(apply st_hs hp;(focus repeat' constructor);exact rfl;exact rfl;clear hp;intro w hp;(try dsimp only [List.set] at hp)))|((with_reducible refine gen_id ?_);first|(apply gen_build;exact rfl;exact rfl)|(apply gen_len;exact rfl;exact rfl;assumption)|(apply gen_min;exact rfl;exact rfl;exact rfl)|(apply gen_max;exact rfl;exact rfl;exact rfl)|(apply gen_ix;exact rfl;exact rfl;exact rfl;exact rfl;omega)|(apply gen_ixa;exact rfl;exact rfl;exact rfl;exact rfl;omega))|((with_reducible refine dr_id ?_);first|(refine dr_auto tabOk (by kernel_rfl) (by decide+kernel) ?_;(try replace hp:=hp.drew))|(refine dr_autog tabOk (by kernel_rfl) (by decide+kernel) ?_;(try replace hp:=hp.drew))|(refine dr_autot tabOk (by kernel_rfl) (by decide+kernel) ?_;(try replace hp:=hp.drew)))|((with_reducible refine fk_id ?_);(refine fk_mk ?_ ?_))|((with_reducible refine rd_id ?_);first|(apply rd_len;exact rfl;exact rfl;assumption)|(apply rd_ix;exact rfl;exact rfl;exact rfl;exact rfl;omega)))<;>(conv=>whnf)))
 refine cl_eq (jthoseList_any (q:=fun _=>true) (h.keep0 hp.chg) hI (fun p _ _ _=>listK_any _) hmany) rfl rfl ?_
 rintro e w ⟨ks,hks,rfl,hm⟩
 replace hp:=hp.add hm
 clear hm
 refine ⟨_,rfl,?_⟩
 have hks:ks.l=l.map (·.1):=by rw [hks];unfold thoK;rw [List.filter_eq_self.2 (fun _ _=>rfl)]
 have hkl:ks.l.length=l.length:=by rw [hks,List.length_map]
 ((conv=>whnf);repeat' (((with_reducible refine gen_id ?_);(apply gen_len;exact rfl;exact rfl;assumption))<;>(conv=>whnf)))
 have hp0:Hp N0 w0 w (rowR 42 2 Key.c ks::jobRs Sl.nil):=(hp.nilRow 49 38 Job.c).perm (.swap ..)
 clear hp
 refine lp_inv (α:=Nat×Sl Job) (fun a=> [(0,ptr b),(3,a.2.v),(7,ks.v),(8,i64 ks.l.length),(9,i64 a.1)]) (fun a w=>a.1≤ks.l.length∧a.2.l.map Job.p=(l.take a.1).map (fun p=>p.2.job.p)∧Hp N0 w0 w (rowR 42 2 Key.c ks::jobRs a.2)) (fun a=>ks.l.length - a.1) (0,Sl.nil) (by (repeat' (first|exact trivial|(refine ⟨rfl,?_⟩)))) ⟨by omega,rfl,hp0⟩ ?_
 clear hp0
 rintro ⟨i,J⟩ e0 w ⟨hi,hJ,hp⟩
 dsimp only at hi hJ hp ⊢
 have hJl:J.l.length=i:=by
  have:=congrArg List.length hJ
  rw [List.length_map,List.length_map,List.length_take] at this
  omega
 rcases Nat.lt_or_ge i ks.l.length with hlt|hge
 ·obtain ⟨bo,o,k,hA,hbb,hrow,hkk⟩:=(hp.row (j:=0) rfl).has hlt
  obtain ⟨p,hpp⟩:∃p,l[i]? =some p:=⟨_,List.getElem?_eq_getElem (by omega)⟩
  have hk:k=p.1:=by
   rw [hks,List.getElem?_map,hpp] at hkk
   exact (Option.some.inj hkk).symm
  subst hk
  have hpm:=List.mem_of_getElem? hpp
  have hv:((ol l).lookup p.1).getD none=some p.2:=by rw [(ol_lookup _ _).1,lku_nd hI.nd hpm]
  have hen:=fun {w:World} (hc:Chg N0 w0 w)=>(h.keep0 hc).ent p hpm
  have hfp:=rightP_few (rightJ_pay (hI.right p hpm))
  have hen0:=h.ent p hpm
  ((conv=>whnf);repeat' ((first|((with_reducible refine br_id ?_);((with_reducible refine br_dec (fun hx=>?_) (fun hx=>?_))<;>(try (exfalso;first|omega|contradiction))))|((with_reducible refine cn_id ?_);(refine cn rfl ?_))|((with_reducible refine ldn_id ?_);((refine ldn_rowat hrow i 0 (vs:=Key.c p.1) rfl hkk rfl rfl ?_)))|((with_reducible refine al_id ?_);(refine al_cel hp ?_;clear hp;intro bb w hp))|((with_reducible refine st_id ?_);(apply sta_hs hp;(focus repeat' constructor);exact rfl;exact rfl;clear hp;intro w hp;(try dsimp only [List.set] at hp)))|((with_reducible refine gen_id ?_);((refine gen_ixs rfl rfl hA rfl rfl (by omega) ?_))))<;>(conv=>whnf)))
  refine dr_autos [] 12 tabOk (by kernel_rfl) (by decide+kernel) ?_
  replace hp:=hp.drew
  ((conv=>whnf);repeat' ((first|((with_reducible refine ld_id ?_);((refine ld_of (hp.chg.cell0 h.c0) ?_)))|((with_reducible refine ldn_id ?_);first|((refine ldn_pre (cs:=EntB.c p.2) (hen hp.chg).cel rfl (vs:=Job.c p.2.job) rfl rfl ?_))|(apply lda_hs hp;(focus repeat' constructor);exact rfl))|((with_reducible refine rd_id ?_);((refine rd_lookM rfl (h.map.keep0 hp.chg) rfl keyK um (z:=none) rfl p.1 rfl hv ?_))))<;>(conv=>whnf)))
  refine cl_eq (jown_any (hen hp.chg).pay (Nat.le_refl _) hfp) rfl rfl ?_
  rintro e w ⟨r,hr,rfl,hm⟩
  replace hp:=hp.add hm
  replace hm:=hm.chg
  refine ⟨_,rfl,?_⟩
  obtain ⟨y',hy'⟩:∃y':Job,y'={p.2.job with pay:=r}:=⟨_,rfl⟩
  have hyp:y'.p=p.2.job.p:=by rw [hy'];simp [Job.p,hr]
  have hys:star (payRs r)=jpayR y':=by rw [hy'];rfl
  rw [hys] at hp
  have hyv:Job.v {p.2.job with pay:=r}=Job.v y':=by rw [hy']
  rw [hyv]
  clear hyv hy' hys
  ((conv=>whnf);repeat' ((first|((with_reducible refine ar_id ?_);(refine ar_i64 (by omega) ?_))|((with_reducible refine cn_id ?_);(refine cn ‹_› ?_))|((with_reducible refine gen_id ?_);first|((refine gen_bs rfl hp el_job Job.c [y'] [Job.v y'] rfl rfl rfl (fun _ hh=>by simp at hh;subst hh;rfl) (by omega) ?_);clear hp;intro br w hp)|((refine gen_app (s:=J) rfl hp 4 rfl el_job rfl ⟨some ⟨br,0,none⟩,1, [y']⟩ rfl (hp.row (j:=0) rfl) (fun _ _=>rfl) job_one (by simp only [List.length_cons,List.length_nil];omega) (by simp only [maxLen,List.length_cons,List.length_nil];omega) ?_);clear hp;intro A2 c2 w hp;dsimp only [List.set] at hp)))<;>(conv=>whnf)))
  refine lp_next (i+1,⟨A2,c2,J.l++ [y']⟩) (by show ks.l.length - (i+1) < ks.l.length - i;omega) (by (repeat' (first|exact trivial|(refine ⟨rfl,?_⟩)))) ⟨by show i+1≤_;omega,?_,?_⟩
  ·show (J.l++ [y']).map Job.p=_
   rw [List.take_add_one,hpp,List.map_append,List.map_append,hJ]
   simp [hyp]
  ·have h1:=hp.tail.sub (rs':=_::_::_::J.l.map jpayR) (List.Sublist.cons_cons _ (List.Sublist.cons _ (List.Sublist.refl _)))
   have h2:=h1.perm (List.perm_append_singleton _ _).symm
   show Hp N0 w0 w (_::_::(J.l++ [y']).map jpayR)
   rw [List.map_append]
   exact h2
 ·rw [List.take_of_length_le (by omega)] at hJ
  ((conv=>whnf);repeat' (((with_reducible refine br_id ?_);((with_reducible refine br_dec (fun hx=>?_) (fun hx=>?_))<;>(try (exfalso;first|omega|contradiction))))<;>(conv=>whnf)))
  exact ps_val (v':=J.v) rfl ⟨J,hJ,rfl,hp.tail.made (.refl _)⟩
end Go.Proofs.YteabebmlclgakaaGreat
/- Job5: the table of jobs: which tier is live. -/
namespace Go.Proofs.YteabebmlclgakaaGreat
open Go.RowKit
set_option maxRecDepth 100000
set_option maxHeartbeats 4000000
def liveE (l:List (Key×EntB)) (k:Key) (t:Int):Bool:=match l.lookup k with
 |none=>false
 |some x=>decide (x.job.mined.toNat=0∧ -1≤t∧t < (x.job.pay.l.length:Int))
def liveL (l:List (Key×EntB)) (k:Key) (t:Int):List (Key×EntB):=if liveE l k t=true then l.map fun a=>if a.1=k then setP a t else a else l
theorem jtAtT {S:Nat→Prop} {w0 w:World} {b m:Nat} {ord:Sl Key} {l:List (Key×EntB)} {r:Res} (hp:Hp S w0 w (r::jtRs b m ord l)):JtAt w b m ord l:=by
 have h1:=hp.tail.fold (jtRs b m ord l).length
 rw [List.take_length,List.drop_length] at h1
 exact jtAt (h1.get (j:=0) rfl)
theorem jlive_any {w0:World} {b m:Nat} {ord:Sl Key} {l:List (Key×EntB)} (h:(star (jtRs b m ord l)).ok w0) (hI:JtI ord.l l) (k:Key) (t:Int):
  Calls Tryz.prog 123 #[ptr b,k.v,i64 t] w0 fun e w'=>e= .returned (.bool (liveE l k t))∧Mut (star (jtRs b m ord l)) (star (jtRs b m ord (liveL l k t))) w0 w':=by
 have hp:=Hp.open h
 have u1:=Tryz.underlying52
 have up:=Tryz.underlying194
 unfold liveL
 cases hlk:l.lookup k with
 |none=>
  have hE:liveE l k t=false:=by unfold liveE;rw [hlk]
  rw [hE,if_neg (by simp)]
  have hat:=fun {S:Nat→Prop} {w0 w:World} {r:Res} (hp:Hp S w0 w (r::jtRs b m ord l))=>jat_any (jtAtT hp) k
  rw [hlk] at hat
  refine calls_x (args:= [_,_,_]) tabOk Tryz.func123 Tryz.ntmps123 Tryz.results123 rfl (Nat.le_of_ble_eq_true rfl) ?_
  ((conv=>whnf);repeat' ((first|((with_reducible refine br_id ?_);(with_reducible refine br_t ?_))|((with_reducible refine ldn_id ?_);(apply lda_hs hp;(focus repeat' constructor);exact rfl))|((with_reducible refine al_id ?_);(refine al_cel hp ?_;clear hp;intro bb w hp))|((with_reducible refine cl_id ?_);((refine cl_eq ((hat hp)) rfl rfl ?_;rintro e w ⟨rfl,hcc⟩;replace hp:=hp.call0 hcc;refine ⟨_,rfl,?_⟩))))<;>(conv=>whnf)))
  exact ps_val (v':= .bool false) rfl ⟨rfl,hp.tail.shut (.refl _)⟩
 |some x=>
  have hat:=fun {S:Nat→Prop} {w0 w:World} {r:Res} (hp:Hp S w0 w (r::jtRs b m ord l))=>jat_any (jtAtT hp) k
  rw [hlk] at hat
  have hmem:=lku_mem hlk
  obtain ⟨i,hi⟩:=List.getElem?_of_mem hmem
  have hen:=fun {S:Nat→Prop} {w0 w:World} {r:Res} (hp:Hp S w0 w (r::jtRs b m ord l))=>((jtAtT hp).ent _ hmem).cel
  have hil:x.ids.l.length=x.job.pay.l.length:=by rw [hI.ids _ hmem,List.length_map]
  have hE:liveE l k t=decide (x.job.mined.toNat=0∧ -1≤t∧t < (x.job.pay.l.length:Int)):=by unfold liveE;rw [hlk]
  by_cases hc:x.job.mined.toNat=0∧ -1≤t∧t < (x.job.pay.l.length:Int)
  ·rw [hE,decide_eq_true hc,if_pos rfl]
   refine calls_x (args:= [_,_,_]) tabOk Tryz.func123 Tryz.ntmps123 Tryz.results123 rfl (Nat.le_of_ble_eq_true rfl) ?_
   ((conv=>whnf);repeat' ((first|((with_reducible refine br_id ?_);first|(with_reducible refine br_t ?_)|(with_reducible refine br_f ?_)|((with_reducible refine br_dec (fun hx=>?_) (fun hx=>?_))<;>(try (exfalso;first|omega|contradiction)))|((with_reducible refine br_ne (fun hx=>?_) (fun hx=>?_))<;>(try (exfalso;first|omega|contradiction))))|((with_reducible refine ld_id ?_);((refine ld_of (cell_of_heap (hen hp) rfl) ?_)))|((with_reducible refine ldn_id ?_);(apply lda_hs hp;(focus repeat' constructor);exact rfl))|((with_reducible refine al_id ?_);(refine al_cel hp ?_;clear hp;intro bb w hp))|((with_reducible refine gen_id ?_);(apply gen_len;exact rfl;exact rfl;assumption))|((with_reducible refine cl_id ?_);((refine cl_eq ((hat hp)) rfl rfl ?_;rintro e w ⟨rfl,hcc⟩;replace hp:=hp.call0 hcc;refine ⟨_,rfl,?_⟩))))<;>(conv=>whnf)))
   all_goals first
    |(exfalso;dsimp only at*;omega)
    |skip
   have hok:(cel x.b 198 (EntB.c x).toArray).ok w:=by
    have hj:(jtRs b m ord l)[i+3]? =some (jentR (k,x)):=by
     show (l.map jentR)[i]? =_
     rw [List.getElem?_map,hi]
     rfl
    exact (Hp.open (show (star (jentRs (k,x))).ok w from hp.tail.get hj)).get (j:=0) rfl
   refine cl_eq (elive_any hok t) rfl rfl ?_
   rintro e w ⟨rfl,hm⟩
   have hp2:=jt_live (t:=t) hp.tail hi hm
   rw [set_upd (f:=fun a=>setP a t) hI.nd hi] at hp2
   clear hp hat hen
   have hp:=hp2
   refine ⟨_,rfl,?_⟩
   ((conv=>whnf);repeat' ((first|((with_reducible refine br_id ?_);first|(with_reducible refine br_t ?_)|(with_reducible refine br_f ?_)|(with_reducible refine br_not ?_)|((with_reducible refine br_dec (fun hx=>?_) (fun hx=>?_))<;>(try (exfalso;first|omega|contradiction)))|((with_reducible refine br_eq (fun hx=>?_) (fun hx=>?_))<;>(try (exfalso;first|omega|contradiction)))|((with_reducible refine br_ne (fun hx=>?_) (fun hx=>?_))<;>(try (exfalso;first|omega|contradiction)))|((with_reducible refine br_s (fun hx=>?_) (fun hx=>?_))<;>(try (exfalso;first|omega|contradiction))))|((with_reducible refine ar_id ?_);first|(refine ar_i64 (by omega) ?_)|(refine ar_u32 (by omega) ?_)|(refine ar_u64 (by omega) ?_)|(refine ar_u8 (by omega) ?_))|((with_reducible refine cn_id ?_);first|(refine cn rfl ?_)|(refine cn ‹_› ?_)|(refine cn (by omega) ?_)|(refine cn (Chg.refl _ _) ?_))|((with_reducible refine ld_id ?_);first|(apply ld_hs hp;(focus repeat' constructor);exact rfl)|(refine ld_of ‹_› ?_))|((with_reducible refine ldn_id ?_);first|(apply lda_hs hp;(focus repeat' constructor);exact rfl)|(apply ldn_hs hp;(focus repeat' constructor);exact rfl;exact rfl))|((with_reducible refine al_id ?_);(refine al_cel hp ?_;clear hp;intro bb w hp))|((with_reducible refine st_id ?_);first|(apply sta_hs hp;(focus repeat' constructor);exact rfl;exact rfl;clear hp;intro w hp;(try dsimp only [List.set] at hp))|(apply st_hs hp;(focus repeat' constructor);exact rfl;exact rfl;clear hp;intro w hp;(try dsimp only [List.set] at hp)))|((with_reducible refine gen_id ?_);first|(apply gen_build;exact rfl;exact rfl)|(apply gen_len;exact rfl;exact rfl;assumption)|(apply gen_min;exact rfl;exact rfl;exact rfl)|(apply gen_max;exact rfl;exact rfl;exact rfl)|(apply gen_ix;exact rfl;exact rfl;exact rfl;exact rfl;omega)|(apply gen_ixa;exact rfl;exact rfl;exact rfl;exact rfl;omega))|((with_reducible refine dr_id ?_);first|(refine dr_auto tabOk (by kernel_rfl) (by decide+kernel) ?_;(try replace hp:=hp.drew))|(refine dr_autog tabOk (by kernel_rfl) (by decide+kernel) ?_;(try replace hp:=hp.drew))|(refine dr_autot tabOk (by kernel_rfl) (by decide+kernel) ?_;(try replace hp:=hp.drew)))|((with_reducible refine fk_id ?_);(refine fk_mk ?_ ?_))|((with_reducible refine rd_id ?_);first|(apply rd_len;exact rfl;exact rfl;assumption)|(apply rd_ix;exact rfl;exact rfl;exact rfl;exact rfl;omega)))<;>(conv=>whnf)))
   exact ps_val (v':= .bool true) rfl ⟨rfl,hp.shut (.refl _)⟩
  ·rw [hE,decide_eq_false hc,if_neg (by simp)]
   refine calls_x (args:= [_,_,_]) tabOk Tryz.func123 Tryz.ntmps123 Tryz.results123 rfl (Nat.le_of_ble_eq_true rfl) ?_
   ((conv=>whnf);repeat' ((first|((with_reducible refine br_id ?_);first|(with_reducible refine br_t ?_)|(with_reducible refine br_f ?_)|((with_reducible refine br_dec (fun hx=>?_) (fun hx=>?_))<;>(try (exfalso;first|omega|contradiction)))|((with_reducible refine br_ne (fun hx=>?_) (fun hx=>?_))<;>(try (exfalso;first|omega|contradiction))))|((with_reducible refine ld_id ?_);((refine ld_of (cell_of_heap (hen hp) rfl) ?_)))|((with_reducible refine ldn_id ?_);(apply lda_hs hp;(focus repeat' constructor);exact rfl))|((with_reducible refine al_id ?_);(refine al_cel hp ?_;clear hp;intro bb w hp))|((with_reducible refine gen_id ?_);(apply gen_len;exact rfl;exact rfl;assumption))|((with_reducible refine cl_id ?_);((refine cl_eq ((hat hp)) rfl rfl ?_;rintro e w ⟨rfl,hcc⟩;replace hp:=hp.call0 hcc;refine ⟨_,rfl,?_⟩))))<;>(conv=>whnf)))
   all_goals first
    |(exfalso;dsimp only at*;omega)
    |exact ps_val (v':= .bool false) rfl ⟨rfl,hp.tail.shut (.refl _)⟩
end Go.Proofs.YteabebmlclgakaaGreat
/- Job6: the table of jobs: what an evicted transaction makes of it. -/
namespace Go.Proofs.YteabebmlclgakaaGreat
open Go.RowKit
set_option maxRecDepth 100000
set_option maxHeartbeats 4000000
def evQ (id:Id) (x:EntB):Bool:=match x.ids.l[x.job.live.toNat]? with
 |some v=>decide (x.job.live≠ -1) && decide (v=id)
 |none=>false
theorem evK_any {w0:World} {c:Nat} {id:Id} {p:Key×EntB} (h:JentAt w0 p) (hc:w0.heap[c]? =some (.cells id.c.toArray 44)) (hl: -1≤p.2.job.live∧p.2.job.live < (p.2.ids.l.length:Int)):Calls Tryz.prog 131 #[ptr p.2.b,ptr c] w0 fun e w'=>e= .returned (.bool (evQ id p.2))∧Chg N0 w0 w':=by
 have hp:=Hp.start (S:=N0) w0
 have u1:=Tryz.underlying52
 have hB:∀b,N0 b→w0.heap.size≤b:=fun _ hh=>hh.elim
 by_cases h1:p.2.job.live= -1
 ·have hE:evQ id p.2=false:=by
   unfold evQ
   split
   ·rw [decide_eq_false (fun hh=>hh h1),Bool.false_and]
   ·rfl
  rw [hE]
  refine calls_x (args:= [_,_]) tabOk Tryz.func131 Tryz.ntmps131 Tryz.results131 rfl (Nat.le_of_ble_eq_true rfl) ?_
  ((conv=>whnf);repeat' ((first|((with_reducible refine br_id ?_);first|(with_reducible refine br_f ?_)|((with_reducible refine br_ne (fun hx=>?_) (fun hx=>?_))<;>(try (exfalso;first|omega|contradiction))))|((with_reducible refine ld_id ?_);((refine ld_of (cell_of_heap (hp.chg.heap0 h.cel) rfl) ?_)))|((with_reducible refine dr_id ?_);(refine dr_auto tabOk (by kernel_rfl) (by decide+kernel) ?_;(try replace hp:=hp.drew))))<;>(conv=>whnf)))
  all_goals first
   |(exfalso;omega)
   |exact ps_val (v':= .bool false) rfl ⟨rfl,hp.chg⟩
 ·obtain ⟨n,hn⟩:∃n:Nat,p.2.job.live=n:=⟨p.2.job.live.toNat,by omega⟩
  have hn3:p.2.job.live.toNat=n:=by omega
  obtain ⟨b,o,v,hA,hbb,hrow,hvv⟩:=h.ids.has (i:=n) (by omega)
  have hE:evQ id p.2=decide (v=id):=by
   unfold evQ
   rw [hn3,hvv]
   dsimp only
   rw [decide_eq_true h1,Bool.true_and]
  rw [hE]
  refine calls_x (args:= [_,_]) tabOk Tryz.func131 Tryz.ntmps131 Tryz.results131 rfl (Nat.le_of_ble_eq_true rfl) ?_
  ((conv=>whnf);repeat' ((first|((with_reducible refine br_id ?_);first|(with_reducible refine br_t ?_)|((with_reducible refine br_ne (fun hx=>?_) (fun hx=>?_))<;>(try (exfalso;first|omega|contradiction))))|((with_reducible refine ld_id ?_);((refine ld_of (cell_of_heap (hp.chg.heap0 h.cel) rfl) ?_)))|((with_reducible refine ldn_id ?_);first|((refine ldn_rowx hp hB hbb hrow n (by rw [hn3];rfl) hvv rfl ?_))|((refine ldn_pre (cs:=id.c) (hp.chg.heap0 hc) rfl (vs:=id.c) rfl rfl ?_)))|((with_reducible refine dr_id ?_);(refine dr_auto tabOk (by kernel_rfl) (by decide+kernel) ?_;(try replace hp:=hp.drew)))|((with_reducible refine rd_id ?_);first|((refine rd_ixs rfl rfl hA rfl rfl (by omega) ?_))|((refine rd_eqa rfl rfl rfl (eq_id v id) (by kernel_rfl) (.inl rfl) ?_))))<;>(conv=>whnf)))
  all_goals first
   |(exfalso;omega)
   |exact ps_val (v':= .bool (decide (v=id))) rfl ⟨rfl,hp.chg⟩
end Go.Proofs.YteabebmlclgakaaGreat
/- Job7: the table of jobs: Evict. -/
namespace Go.Proofs.YteabebmlclgakaaGreat
open Go.RowKit
set_option maxRecDepth 100000
set_option maxHeartbeats 4000000
def offL (ks:List Key) (l:List (Key×EntB)):List (Key×EntB):=l.map fun a=>if a.1∈ks then setP a (-1) else a
theorem offL_keys (ks:List Key) (l:List (Key×EntB)):(offL ks l).map (·.1)=l.map (·.1):=by
 unfold offL
 rw [List.map_map]
 refine List.map_congr_left fun a _=>?_
 show (if a.1∈ks then setP a (-1) else a).1=a.1
 split<;>rfl
theorem offL_step {ks:List Key} {l:List (Key×EntB)} {i:Nat} {k:Key} (hn:(l.map (·.1)).Nodup) {p:Key×EntB} (hi:(offL ks l)[i]? =some p) (hk:p.1=k):(offL ks l).set i (setP p (-1))=offL (ks++ [k]) l:=by
 rw [set_upd (f:=fun a=>setP a (-1)) (by rw [offL_keys];exact hn) hi,hk]
 unfold offL
 rw [List.map_map]
 refine List.map_congr_left fun a _=>?_
 show (if (if a.1∈ks then setP a (-1) else a).1=k then setP (if a.1∈ks then setP a (-1) else a) (-1) else (if a.1∈ks then setP a (-1) else a))=_
 by_cases h1:a.1∈ks
 ·rw [if_pos h1,if_pos (List.mem_append_left _ h1)]
  split<;>rfl
 ·rw [if_neg h1]
  by_cases h2:a.1=k
  ·rw [if_pos h2,if_pos (List.mem_append_right _ (by simp [h2]))]
  ·rw [if_neg h2,if_neg (by simp [h1,h2])]
theorem jt_liveF {S:Nat→Prop} {w0 w w':World} {F:List Res} {b m:Nat} {ord:Sl Key} {l:List (Key×EntB)} {i:Nat} {p:Key×EntB} {t:Int} (hp:Hp S w0 w (F++jtRs b m ord l)) (hi:l[i]? =some p) (hm:Mut (cel p.2.b 198 (EntB.c p.2).toArray) (cel p.2.b 198 (EntB.c (setL p.2 t)).toArray) w w'):Hp S w0 w' (F++jtRs b m ord (l.set i (setP p t))):=by
 have hj:(F++jtRs b m ord l)[F.length+(i+3)]? =some (jentR p):=by
  rw [List.getElem?_append_right (by omega),Nat.add_sub_cancel_left]
  show (l.map jentR)[i]? =_
  rw [List.getElem?_map,hi]
  rfl
 have m2:Mut (jentR p) (jentR (setP p t)) w w':=hm.frame (show (star (jentRs p)).ok w from hp.get hj)
 have h1:=hp.via hj m2
 rw [List.set_append_right _ _ (by omega),Nat.add_sub_cancel_left] at h1
 have h2:mapR Key.v ptO m (ol (l.set i (setP p t)))=mapR Key.v ptO m (ol l):=mapR_congr (by
  unfold ol
  rw [List.map_map,List.map_map]
  exact map_set_sameR hi rfl)
 unfold jtRs
 rw [h2,List.map_set]
 exact h1
theorem jevict_any {w0:World} {b m:Nat} {ord:Sl Key} {l:List (Key×EntB)} (h:(star (jtRs b m ord l)).ok w0) (hI:JtI ord.l l) (hmany:l.length≤100000) (id:Id):
  Calls Tryz.prog 76 #[ptr b,id.v] w0 fun e w'=>∃r:Sl Key,r.l=thoK (evQ id) l∧e= .returned r.v∧Mut (star (jtRs b m ord l)) (star [star (jtRs b m ord (offL r.l l)),rowR 42 2 Key.c r]) w0 w':=by
 have hp:=Hp.open h
 have u1:=Tryz.underlying64
 have um:=Tryz.underlying179
 have hri:∀p∈l, -1≤p.2.job.live∧p.2.job.live < (p.2.ids.l.length:Int):=fun p hp=>by
  have h1:=hI.right p hp
  unfold rightJ at h1
  rw [Bool.and_eq_true,decide_eq_true_eq] at h1
  rw [hI.ids p hp,List.length_map]
  exact ⟨h1.2.2.1,h1.2.2.2.1⟩
 refine calls_x (args:= [_,_]) tabOk Tryz.func76 Tryz.ntmps76 Tryz.results76 rfl (Nat.le_of_ble_eq_true rfl) ?_
 ((conv=>whnf);repeat' ((first|((with_reducible refine al_id ?_);(refine al_cel hp ?_;clear hp;intro bb w hp))|((with_reducible refine gen_id ?_);((refine gen_mkf rfl rfl ?_))))<;>(conv=>whnf)))
 obtain ⟨b3,hb3⟩:∃x,x=bb:=⟨_,rfl⟩
 subst hb3
 have hjt:=jtAtT hp
 have hcid:=hp.cel_get (j:=0) rfl
 refine cl_eq (jthoseEvict_any (c:=b3) (q:=evQ id) hjt hI (fun p hpm {w'} hc=>evK_any ((hjt.ent p hpm).keep0 hc) (hc.heap0 hcid) (hri p hpm)) hmany) rfl rfl ?_
 clear hjt hcid
 rintro e w ⟨ks,hks,rfl,hm⟩
 replace hp:=hp.add hm
 clear hm
 refine ⟨_,rfl,?_⟩
 have hkl:ks.l.length≤l.length:=by
  rw [hks]
  unfold thoK
  rw [List.length_map]
  exact List.length_filter_le ..
 have hkm:∀k∈ks.l,k∈l.map (·.1):=fun k hk=>by
  rw [hks] at hk
  obtain ⟨a,ha,rfl⟩:=List.mem_map.1 hk
  exact List.mem_map_of_mem (List.mem_filter.1 ha).1
 ((conv=>whnf);repeat' (((with_reducible refine gen_id ?_);(apply gen_len;exact rfl;exact rfl;assumption))<;>(conv=>whnf)))
 have hoff0:offL (ks.l.take 0) l=l:=by unfold offL;simp
 refine lp_inv (α:=Nat) (fun i=> [(0,ptr b),(5,ks.v),(11,ks.v),(12,i64 ks.l.length),(13,i64 i)]) (fun i w=>i≤ks.l.length∧Hp (star (jtRs b m ord l)).dom w0 w (rowR 42 2 Key.c ks::cel b3 44 id.c.toArray::jtRs b m ord (offL (ks.l.take i) l))) (fun i=>ks.l.length - i) 0 (by (repeat' (first|exact trivial|(refine ⟨rfl,?_⟩)))) ⟨by omega,by rw [hoff0];exact hp⟩ ?_
 clear hp
 rintro i e0 w ⟨hi,hp⟩
 dsimp only at hi hp ⊢
 rcases Nat.lt_or_ge i ks.l.length with hlt|hge
 ·obtain ⟨bo,o,k,hA,hbb,hrow,hkk⟩:=(hp.row (j:=0) rfl).has hlt
  have hkL:k∈(offL (ks.l.take i) l).map (·.1):=by rw [offL_keys];exact hkm k (List.mem_of_getElem? hkk)
  obtain ⟨p,hpL,hpk⟩:=List.mem_map.1 hkL
  obtain ⟨j,hj⟩:=List.getElem?_of_mem hpL
  have hv:((ol (offL (ks.l.take i) l)).lookup k).getD none=some p.2:=by rw [(ol_lookup _ _).1,←hpk,lku_nd (by rw [offL_keys];exact hI.nd) hpL]
  have hst:=offL_step hI.nd hj hpk
  rw [show ks.l.take i++ [k]=ks.l.take (i+1) by rw [List.take_add_one,hkk];rfl] at hst
  ((conv=>whnf);repeat' ((first|((with_reducible refine br_id ?_);((with_reducible refine br_dec (fun hx=>?_) (fun hx=>?_))<;>(try (exfalso;first|omega|contradiction))))|((with_reducible refine cn_id ?_);(refine cn rfl ?_))|((with_reducible refine ldn_id ?_);((refine ldn_rowat hrow i 0 (vs:=Key.c k) rfl hkk rfl rfl ?_)))|((with_reducible refine al_id ?_);(refine al_cel hp ?_;clear hp;intro bb w hp))|((with_reducible refine st_id ?_);(apply sta_hs hp;(focus repeat' constructor);exact rfl;exact rfl;clear hp;intro w hp;(try dsimp only [List.set] at hp)))|((with_reducible refine gen_id ?_);((refine gen_ixs rfl rfl hA rfl rfl (by omega) ?_))))<;>(conv=>whnf)))
  refine dr_autos [] 6 tabOk (by kernel_rfl) (by decide+kernel) ?_
  replace hp:=hp.drew
  ((conv=>whnf);repeat' ((first|((with_reducible refine ld_id ?_);(apply ld_hs hp;(focus repeat' constructor);exact rfl))|((with_reducible refine ldn_id ?_);(apply lda_hs hp;(focus repeat' constructor);exact rfl))|((with_reducible refine rd_id ?_);((refine rd_lookM rfl (mapR_ok.1 (hp.get (j:=4) rfl)) rfl keyK um (z:=none) rfl k rfl hv ?_))))<;>(conv=>whnf)))
  have hok:(cel p.2.b 198 (EntB.c p.2).toArray).ok w.drew:=by
   have hj2:(jtRs b m ord (offL (ks.l.take i) l))[j+3]? =some (jentR p):=by
    show ((offL (ks.l.take i) l).map jentR)[j]? =_
    rw [List.getElem?_map,hj]
    rfl
   exact (Hp.open (show (star (jentRs p)).ok w.drew from hp.tail.tail.tail.get hj2)).get (j:=0) rfl
  refine cl_eq (elive_any hok (-1)) rfl rfl ?_
  rintro e w ⟨rfl,hm⟩
  have hp2:=jt_liveF (F:= [_,_,_]) (t:= -1) hp hj hm
  rw [hst] at hp2
  clear hp hm
  have hp:Hp (star (jtRs b m ord l)).dom w0 w (_::rowR 42 2 Key.c ks::cel b3 44 id.c.toArray::jtRs b m ord (offL (ks.l.take (i+1)) l)):=hp2
  clear hp2
  refine ⟨_,rfl,?_⟩
  ((conv=>whnf);repeat' (((with_reducible refine ar_id ?_);(refine ar_i64 (by omega) ?_))<;>(conv=>whnf)))
  exact lp_next (i+1) (by show ks.l.length - (i+1) < ks.l.length - i;omega) (by (repeat' (first|exact trivial|(refine ⟨rfl,?_⟩)))) ⟨by show i+1≤_;omega,hp.tail⟩
 ·rw [List.take_of_length_le hge] at hp
  ((conv=>whnf);repeat' (((with_reducible refine br_id ?_);((with_reducible refine br_dec (fun hx=>?_) (fun hx=>?_))<;>(try (exfalso;first|omega|contradiction))))<;>(conv=>whnf)))
  refine ps_val (v':=ks.v) rfl ⟨ks,hks,rfl,?_⟩
  have h1:=hp.sub (rs':=rowR 42 2 Key.c ks::jtRs b m ord (offL ks.l l)) (List.Sublist.cons_cons _ (List.Sublist.cons _ (List.Sublist.refl _)))
  have h2:=(h1.perm (List.perm_append_singleton _ _).symm).fold (jtRs b m ord (offL ks.l l)).length
  rw [List.take_left,List.drop_left] at h2
  exact h2.shut (.refl _)
end Go.Proofs.YteabebmlclgakaaGreat
/- Book5: package book: what a loaded book tells. -/
namespace Go.Proofs.YteabebmlclgakaaGreat
open Go.RowKit
set_option maxRecDepth 100000
set_option maxHeartbeats 4000000
theorem babsent_any {w0:World} {b:Nat} {X:Bk} (h:w0.heap[b]? =some (.cells X.c.toArray 121)):Calls Tryz.prog 73 #[ptr b] w0 fun e w'=>e= .returned (.bool false)∧Chg N0 w0 w':=by
 have hp:=Hp.start (S:=N0) w0
 refine calls_x (args:= [_]) tabOk Tryz.func73 Tryz.ntmps73 Tryz.results73 rfl (Nat.le_of_ble_eq_true rfl) ?_
 ((conv=>whnf);repeat' ((first|((with_reducible refine br_id ?_);(with_reducible refine br_f ?_))|((with_reducible refine ld_id ?_);((refine ld_of (cell_of_heap (hp.chg.heap0 h) rfl) ?_))))<;>(conv=>whnf)))
 all_goals exact ps_val (v':= .bool false) rfl ⟨rfl,hp.chg⟩
theorem bhalted_any {w0:World} {b:Nat} {X:Bk} (h:w0.heap[b]? =some (.cells X.c.toArray 121)):Calls Tryz.prog 70 #[ptr b] w0 fun e w'=>e= .returned (i64 X.halt)∧Chg N0 w0 w':=by
 have hp:=Hp.start (S:=N0) w0
 refine calls_x (args:= [_]) tabOk Tryz.func70 Tryz.ntmps70 Tryz.results70 rfl (Nat.le_of_ble_eq_true rfl) ?_
 ((conv=>whnf);repeat' ((first|((with_reducible refine br_id ?_);(with_reducible refine br_f ?_))|((with_reducible refine ld_id ?_);((refine ld_of (cell_of_heap (hp.chg.heap0 h) rfl) ?_)))|((with_reducible refine cl_id ?_);((refine cl_eq ((babsent_any (hp.chg.heap0 h))) rfl rfl ?_;rintro e w ⟨rfl,hcc⟩;replace hp:=hp.call0 hcc;refine ⟨_,rfl,?_⟩))))<;>(conv=>whnf)))
 exact ps_val (v':=i64 X.halt) rfl ⟨rfl,hp.chg⟩
theorem bheight_any {w0:World} {b:Nat} {X:Bk} {C:Chn} (h:w0.heap[b]? =some (.cells X.c.toArray 121)) (hc:ChAt w0 X.bc C):Calls Tryz.prog 79 #[ptr b] w0 fun e w'=>e= .returned (u32 C.ht)∧Chg N0 w0 w':=by
 have hp:=Hp.start (S:=N0) w0
 refine calls_x (args:= [_]) tabOk Tryz.func79 Tryz.ntmps79 Tryz.results79 rfl (Nat.le_of_ble_eq_true rfl) ?_
 ((conv=>whnf);repeat' ((first|((with_reducible refine br_id ?_);(with_reducible refine br_f ?_))|((with_reducible refine ld_id ?_);((refine ld_of (cell_of_heap (hp.chg.heap0 h) rfl) ?_)))|((with_reducible refine cl_id ?_);first|((refine cl_eq ((babsent_any (hp.chg.heap0 h))) rfl rfl ?_;rintro e w ⟨rfl,hcc⟩;replace hp:=hp.call0 hcc;refine ⟨_,rfl,?_⟩))|((refine cl_eq ((cheight_any (hc.keep0 hp.chg))) rfl rfl ?_;rintro e w ⟨rfl,hcc⟩;replace hp:=hp.call0 hcc;refine ⟨_,rfl,?_⟩))))<;>(conv=>whnf)))
 exact ps_val (v':=u32 C.ht) rfl ⟨rfl,hp.chg⟩
theorem bconfig_any {w0:World} {b:Nat} {X:Bk} (h:w0.heap[b]? =some (.cells X.c.toArray 121)):Calls Tryz.prog 122 #[ptr b] w0 fun e w'=>e= .returned X.cfg.v∧Chg N0 w0 w':=by
 have hp:=Hp.start (S:=N0) w0
 refine calls_x (args:= [_]) tabOk Tryz.func122 Tryz.ntmps122 Tryz.results122 rfl (Nat.le_of_ble_eq_true rfl) ?_
 ((conv=>whnf);repeat' ((first|((with_reducible refine br_id ?_);(with_reducible refine br_f ?_))|((with_reducible refine cn_id ?_);(refine cn rfl ?_))|((with_reducible refine ldn_id ?_);first|((refine ldn_pre (cs:=X.c) (hp.chg.heap0 h) rfl (vs:=X.cfg.c) rfl rfl ?_))|(apply lda_hs hp;(focus repeat' constructor);exact rfl))|((with_reducible refine al_id ?_);(refine al_cel hp ?_;clear hp;intro bb w hp))|((with_reducible refine st_id ?_);(apply sta_hs hp;(focus repeat' constructor);exact rfl;exact rfl;clear hp;intro w hp;(try dsimp only [List.set] at hp)))|((with_reducible refine cl_id ?_);((refine cl_eq ((babsent_any (hp.chg.heap0 h))) rfl rfl ?_;rintro e w ⟨rfl,hcc⟩;replace hp:=hp.call0 hcc;refine ⟨_,rfl,?_⟩))))<;>(conv=>whnf)))
 exact ps_val (v':=X.cfg.v) rfl ⟨rfl,hp.chg⟩
theorem bjobs_any {w0:World} {b m:Nat} {X:Bk} {ord:Sl Key} {l:List (Key×EntB)} (h:w0.heap[b]? =some (.cells X.c.toArray 121)) (hj:JtAt w0 X.bj m ord l) (hI:JtI ord.l l) (hmany:l.length≤100000):Calls Tryz.prog 18 #[ptr b] w0 fun e w'=>∃r:Sl Job,r.l.map Job.p=l.map (fun p=>p.2.job.p)∧e= .returned r.v∧Made (star (jobRs r)) w0 w':=by
 have hp:=Hp.start (S:=N0) w0
 refine calls_x (args:= [_]) tabOk Tryz.func18 Tryz.ntmps18 Tryz.results18 rfl (Nat.le_of_ble_eq_true rfl) ?_
 ((conv=>whnf);repeat' ((first|((with_reducible refine br_id ?_);(with_reducible refine br_f ?_))|((with_reducible refine ld_id ?_);((refine ld_of (cell_of_heap (hp.chg.heap0 h) rfl) ?_)))|((with_reducible refine cl_id ?_);((refine cl_eq ((babsent_any (hp.chg.heap0 h))) rfl rfl ?_;rintro e w ⟨rfl,hcc⟩;replace hp:=hp.call0 hcc;refine ⟨_,rfl,?_⟩))))<;>(conv=>whnf)))
 refine cl_eq (jlist_any (hj.keep0 hp.chg) hI hmany) rfl rfl ?_
 rintro e w ⟨r,hr,rfl,hm⟩
 replace hp:=hp.add hm
 refine ⟨_,rfl,?_⟩
 ((conv=>whnf);repeat' ((first|((with_reducible refine br_id ?_);first|(with_reducible refine br_t ?_)|(with_reducible refine br_f ?_)|(with_reducible refine br_not ?_)|((with_reducible refine br_dec (fun hx=>?_) (fun hx=>?_))<;>(try (exfalso;first|omega|contradiction)))|((with_reducible refine br_eq (fun hx=>?_) (fun hx=>?_))<;>(try (exfalso;first|omega|contradiction)))|((with_reducible refine br_ne (fun hx=>?_) (fun hx=>?_))<;>(try (exfalso;first|omega|contradiction)))|((with_reducible refine br_s (fun hx=>?_) (fun hx=>?_))<;>(try (exfalso;first|omega|contradiction))))|((with_reducible refine ar_id ?_);first|(refine ar_i64 (by omega) ?_)|(refine ar_u32 (by omega) ?_)|(refine ar_u64 (by omega) ?_)|(refine ar_u8 (by omega) ?_))|((with_reducible refine cn_id ?_);first|(refine cn rfl ?_)|(refine cn ‹_› ?_)|(refine cn (by omega) ?_)|(refine cn (Chg.refl _ _) ?_))|((with_reducible refine ld_id ?_);first|(apply ld_hs hp;(focus repeat' constructor);exact rfl)|(refine ld_of ‹_› ?_))|((with_reducible refine ldn_id ?_);first|(apply lda_hs hp;(focus repeat' constructor);exact rfl)|(apply ldn_hs hp;(focus repeat' constructor);exact rfl;exact rfl))|((with_reducible refine al_id ?_);(refine al_cel hp ?_;clear hp;intro bb w hp))|((with_reducible refine st_id ?_);first|(apply sta_hs hp;(focus repeat' constructor);exact rfl;exact rfl;clear hp;intro w hp;(try dsimp only [List.set] at hp))|(apply st_hs hp;(focus repeat' constructor);exact rfl;exact rfl;clear hp;intro w hp;(try dsimp only [List.set] at hp)))|((with_reducible refine gen_id ?_);first|(apply gen_build;exact rfl;exact rfl)|(apply gen_len;exact rfl;exact rfl;assumption)|(apply gen_min;exact rfl;exact rfl;exact rfl)|(apply gen_max;exact rfl;exact rfl;exact rfl)|(apply gen_ix;exact rfl;exact rfl;exact rfl;exact rfl;omega)|(apply gen_ixa;exact rfl;exact rfl;exact rfl;exact rfl;omega))|((with_reducible refine dr_id ?_);first|(refine dr_auto tabOk (by kernel_rfl) (by decide+kernel) ?_;(try replace hp:=hp.drew))|(refine dr_autog tabOk (by kernel_rfl) (by decide+kernel) ?_;(try replace hp:=hp.drew))|(refine dr_autot tabOk (by kernel_rfl) (by decide+kernel) ?_;(try replace hp:=hp.drew)))|((with_reducible refine fk_id ?_);(refine fk_mk ?_ ?_))|((with_reducible refine rd_id ?_);first|(apply rd_len;exact rfl;exact rfl;assumption)|(apply rd_ix;exact rfl;exact rfl;exact rfl;exact rfl;omega)))<;>(conv=>whnf)))
 exact ps_val (v':=r.v) rfl ⟨r,hr,rfl,hp.made1 (j:=0) rfl⟩
abbrev bjRs (bk:Nat) (X:Bk) (m:Nat) (ord:Sl Key) (l:List (Key×EntB)):List Res:= [bkR bk X,star (jtRs X.bj m ord l)]
theorem blive_any {w0:World} {bk m:Nat} {X:Bk} {ord:Sl Key} {l:List (Key×EntB)} (h:(star (bjRs bk X m ord l)).ok w0) (hI:JtI ord.l l) (k:Key) (t:Int):
  Calls Tryz.prog 72 #[ptr bk,k.v,i64 t] w0 fun e w'=>e= .returned (.bool (liveE l k t))∧Mut (star (bjRs bk X m ord l)) (star (bjRs bk X m ord (liveL l k t))) w0 w':=by
 have hp:=Hp.open h
 refine calls_x (args:= [_,_,_]) tabOk Tryz.func72 Tryz.ntmps72 Tryz.results72 rfl (Nat.le_of_ble_eq_true rfl) ?_
 ((conv=>whnf);repeat' (((with_reducible refine al_id ?_);(refine al_cel hp ?_;clear hp;intro bb w hp))<;>(conv=>whnf)))
 refine dr_autos [] 10 tabOk (by kernel_rfl) (by decide+kernel) ?_
 replace hp:=hp.drew
 ((conv=>whnf);repeat' ((first|((with_reducible refine br_id ?_);first|(with_reducible refine br_t ?_)|(with_reducible refine br_f ?_)|(with_reducible refine br_not ?_))|((with_reducible refine cn_id ?_);(refine cn ‹_› ?_))|((with_reducible refine ld_id ?_);(apply ld_hs hp;(focus repeat' constructor);exact rfl))|((with_reducible refine ldn_id ?_);(apply lda_hs hp;(focus repeat' constructor);exact rfl))|((with_reducible refine cl_id ?_);first|((refine cl_eq ((babsent_any (hp.cel_get (j:=1) rfl))) rfl rfl ?_;rintro e w ⟨rfl,hcc⟩;replace hp:=hp.call0 hcc;refine ⟨_,rfl,?_⟩))|((refine cl_eq (jlive_any (hp.get (j:=2) rfl) hI k t) rfl rfl ?_;rintro e w ⟨rfl,hm⟩;replace hp:=hp.via (j:=2) rfl hm;replace hm:=hm.chg;dsimp only [List.set] at hp;refine ⟨_,rfl,?_⟩))))<;>(conv=>whnf)))
 all_goals exact ps_val (v':= .bool (liveE l k t)) rfl ⟨rfl,hp.tail.shut (.refl _)⟩
theorem bevict_any {w0:World} {bk m:Nat} {X:Bk} {ord:Sl Key} {l:List (Key×EntB)} (h:(star (bjRs bk X m ord l)).ok w0) (hI:JtI ord.l l) (hmany:l.length≤100000) (id:Id):
  Calls Tryz.prog 21 #[ptr bk,id.v] w0 fun e w'=>e= .returned (i64 (thoK (evQ id) l).length)∧Mut (star (bjRs bk X m ord l)) (star (bjRs bk X m ord (offL (thoK (evQ id) l) l))) w0 w':=by
 have hp:=Hp.open h
 have u1:=Tryz.underlying64
 refine calls_x (args:= [_,_]) tabOk Tryz.func21 Tryz.ntmps21 Tryz.results21 rfl (Nat.le_of_ble_eq_true rfl) ?_
 ((conv=>whnf);repeat' ((first|((with_reducible refine br_id ?_);(with_reducible refine br_f ?_))|((with_reducible refine al_id ?_);(refine al_cel hp ?_;clear hp;intro bb w hp))|((with_reducible refine cl_id ?_);((refine cl_eq ((babsent_any (hp.cel_get (j:=1) rfl))) rfl rfl ?_;rintro e w ⟨rfl,hcc⟩;replace hp:=hp.call0 hcc;refine ⟨_,rfl,?_⟩))))<;>(conv=>whnf)))
 refine dr_autos [] 5 tabOk (by kernel_rfl) (by decide+kernel) ?_
 replace hp:=hp.drew
 ((conv=>whnf);repeat' ((first|((with_reducible refine ld_id ?_);(apply ld_hs hp;(focus repeat' constructor);exact rfl))|((with_reducible refine ldn_id ?_);(apply lda_hs hp;(focus repeat' constructor);exact rfl))|((with_reducible refine cl_id ?_);((refine cl_eq (jevict_any (hp.get (j:=2) rfl) hI hmany id) rfl rfl ?_;rintro e w ⟨r,hr,rfl,hm⟩;replace hp:=hp.via (j:=2) rfl hm.hd;replace hm:=hm.chg;dsimp only [List.set] at hp;refine ⟨_,rfl,?_⟩)))|((with_reducible refine rd_id ?_);(apply rd_len;exact rfl;exact rfl;assumption)))<;>(conv=>whnf)))
 all_goals
  rw [hr] at hp
  exact ps_val (v':=i64 r.l.length) rfl ⟨by rw [hr],hp.tail.shut (.refl _)⟩
end Go.Proofs.YteabebmlclgakaaGreat
/- Shelf4: shelf.Get, Of, Len, Bytes. -/
namespace Go.Proofs.YteabebmlclgakaaGreat
open Go.RowKit
set_option maxRecDepth 100000
set_option maxHeartbeats 2000000
end Go.Proofs.YteabebmlclgakaaGreat
/- Shelf5: shelf.Hinted. -/
namespace Go.Proofs.YteabebmlclgakaaGreat
open Go.RowKit
set_option maxRecDepth 100000
set_option maxHeartbeats 2000000
end Go.Proofs.YteabebmlclgakaaGreat
/- Shelf6: shelf.Drop, DropAll. -/
namespace Go.Proofs.YteabebmlclgakaaGreat
open Go.RowKit
set_option maxRecDepth 100000
set_option maxHeartbeats 2000000
end Go.Proofs.YteabebmlclgakaaGreat
/- Shelf7: shelf.DropAll; the law's example. -/
namespace Go.Proofs.YteabebmlclgakaaGreat
open Go.RowKit
set_option maxRecDepth 100000
set_option maxHeartbeats 2000000
end Go.Proofs.YteabebmlclgakaaGreat
/- ShListP: entries in the order of their places. No program in sight. -/
namespace Go.Proofs.YteabebmlclgakaaGreat
open Go.RowKit
set_option maxRecDepth 100000
set_option maxHeartbeats 2000000
end Go.Proofs.YteabebmlclgakaaGreat
/- SortF: rows of its own under the library's sort by a function (the kit's contract of slices.SortFunc, laid at resources). No condition. -/
namespace Go.Proofs.YteabebmlclgakaaGreat
open Go.RowKit Go.Shelf Go.Lib
set_option maxRecDepth 100000
set_option maxHeartbeats 2000000
section
variable {α : Type} [Inhabited α] {enc : α → List Value} {sz : Nat} {e : TypeId} {s : Sl α} {w : World} {b : Nat}
variable {P : Program} {ρ : Ren}
end
end Go.Proofs.YteabebmlclgakaaGreat
