/- MRespondAll17: PayCopy, PayIds, Job1, StaP. -/
import Derived.Test.YteabebmlclgakaaGreatMRespondAll16
import Derived.Test.YteabebmlclgakaaGreatMRespondAll7
import Derived.Test.YteabebmlclgakaaGreatMRespondAll11
set_option linter.unusedSimpArgs false
set_option linter.unusedVariables false
/- PayCopy: a payload in new memory. -/
namespace Go.Proofs.YteabebmlclgakaaGreat
open Go.RowKit
set_option maxRecDepth 100000
set_option maxHeartbeats 2000000
theorem copyp_any {B:Nat} {w0:World} {p:Payload} (h:PayAt B w0 p) (hBw:B≤w0.heap.size) (hf:fewP p=true):Calls Tryz.prog 47 #[p.pv] w0 fun e w'=>∃r:Payload,r.l.map tk=p.l.map tk∧e= .returned r.pv∧Made (star (payRs r)) w0 w':=by
 obtain ⟨hf1,hf2⟩:=fewP_at hf
 have hp:=Hp.start (S:=N0) w0
 have hB:∀b,N0 b→B≤b:=fun _ hh=>hh.elim
 have u1:=Tryz.underlying45
 refine calls_x (args:= [_]) tabOk Tryz.func47 Tryz.ntmps47 Tryz.results47 rfl (Nat.le_of_ble_eq_true rfl) ?_
 ((conv=>whnf);repeat' ((first|((with_reducible refine ld_id ?_);(apply ld_hs hp;(focus repeat' constructor);exact rfl))|((with_reducible refine al_id ?_);(refine al_cel hp ?_;clear hp;intro bb w hp))|((with_reducible refine gen_id ?_);(apply gen_len;exact rfl;exact rfl;assumption)))<;>(conv=>whnf)))
 obtain ⟨b3,hb3⟩:∃b,b=bb:=⟨_,rfl⟩
 subst hb3
 obtain ⟨b2,hb2⟩:∃b,b=bb:=⟨_,rfl⟩
 subst hb2
 have hp0:Hp N0 w0 w (cel b3 47 #[(Sl.nil:Payload).v]::cel b2 47 #[(Sl.nil:Payload).v]::payRs Sl.nil):=by
  have h1:=hp.new (Chg.refl _ _) (r:=rowR 51 2 Tier.c Sl.nil) (rowR_ok.2 ⟨World.ownsRow_nil w 0 _ _,by simp [Sl.nil]⟩) fun b hb=>by have h1:=rowR_dom.1 hb;cases h1
  exact (h1.sub (rs':= [_,_,_]) (List.Sublist.cons_cons _ (List.Sublist.cons_cons _ (List.Sublist.cons_cons _ (List.nil_sublist _))))).perm (List.perm_append_singleton _ [_,_]).symm
 clear hp
 refine lp_inv (α:=Nat×Payload) (fun a=> [(2,ptr b2),(3,ptr b3),(7,p.v),(8,i64 p.l.length),(9,i64 a.1)]) (fun a w=>a.1≤p.l.length∧a.2.l.map tk=(p.l.take a.1).map tk∧Hp N0 w0 w (cel b3 47 #[a.2.v]::cel b2 47 #[(Sl.nil:Payload).v]::payRs a.2)) (fun a=>p.l.length - a.1) (0,Sl.nil) (by (repeat' (first|exact trivial|(refine ⟨rfl,?_⟩)))) ⟨by omega,by simp [Sl.nil],hp0⟩ ?_
 clear hp0
 rintro ⟨i,r⟩ e0 w ⟨hi,hr,hp⟩
 dsimp only at hi hr hp ⊢
 have hrl:r.l.length=i:=by
  have:=congrArg List.length hr
  rw [List.length_map,List.length_map,List.length_take] at this
  omega
 rcases Nat.lt_or_ge i p.l.length with hlt|hge
 ·obtain ⟨b,o,x,hA,hb,hrow,hxx⟩:=h.row.has hlt
  have hmem:=List.mem_of_getElem? hxx
  have hx200:=hf1 x hmem
  have hx8:SlAt w.heap.size w u8L 1 x.tx:=((h.tx x hmem).keep hp.chg hB).more (Nat.le_trans hBw hp.chg.size)
  ((conv=>whnf);repeat' ((first|((with_reducible refine br_id ?_);((with_reducible refine br_dec (fun hx=>?_) (fun hx=>?_))<;>(try (exfalso;first|omega|contradiction))))|((with_reducible refine ar_id ?_);(refine ar_i64 (by omega) ?_))|((with_reducible refine cn_id ?_);first|(refine cn rfl ?_)|(refine cn ‹_› ?_))|((with_reducible refine ld_id ?_);(apply ld_hs hp;(focus repeat' constructor);exact rfl))|((with_reducible refine ldn_id ?_);((refine ldn_rowx hp hB ‹_› ‹_› _ rfl ‹_› rfl ?_)))|((with_reducible refine al_id ?_);(refine al_cel hp ?_;clear hp;intro bb w hp))|((with_reducible refine st_id ?_);(apply sta_hs hp;(focus repeat' constructor);exact rfl;exact rfl;clear hp;intro w hp;(try dsimp only [List.set] at hp)))|((with_reducible refine gen_id ?_);first|((refine gen_ixs rfl rfl ‹_› rfl rfl (by omega) ?_))|((refine gen_app0 rfl hp el_u8 rfl x.tx rfl (((h.tx x hmem).keep hp.chg hB).more (Nat.le_trans hBw hp.chg.size)) (fun _ _=>rfl) u8_one (by omega) (by simp only [maxLen];omega) ?_);clear hp;intro A1 c1 w hcc hp)|((refine gen_bs rfl hp el_tier Tier.c [⟨x.fee,⟨A1,c1,x.tx.l⟩⟩] [Tier.v ⟨x.fee,⟨A1,c1,x.tx.l⟩⟩] rfl rfl rfl (fun _ hh=>by simp at hh;subst hh;rfl) (by omega) ?_);clear hp;intro br w hp)|((refine gen_app (s:=r) rfl hp 5 rfl el_tier rfl ⟨some ⟨br,0,none⟩,1, [⟨x.fee,⟨A1,c1,x.tx.l⟩⟩]⟩ rfl (hp.row (j:=0) rfl) (fun _ _=>rfl) tierL_one (by simp only [List.length_cons,List.length_nil];omega) (by simp only [maxLen,List.length_cons,List.length_nil];omega) ?_);clear hp;intro A2 c2 w hp;dsimp only [List.set] at hp)|(apply gen_build;exact rfl;exact rfl))|((with_reducible refine dr_id ?_);((refine dr_autot tabOk (by kernel_rfl) (by decide+kernel) ?_);replace hp:=hp.drew)))<;>(conv=>whnf)))
  refine lp_next (i+1,⟨A2,c2,r.l++ [⟨x.fee,⟨A1,c1,x.tx.l⟩⟩]⟩) ?_ (by (repeat' (first|exact trivial|(refine ⟨rfl,?_⟩)))) ⟨by show i+1≤_;omega,?_,?_⟩
  ·show p.l.length - (i+1) < p.l.length - i;omega
  ·show (r.l++ [_]).map tk=_
   rw [List.take_add_one,hxx,List.map_append,List.map_append,hr]
   rfl
  ·have h1:=hp.sub (rs':=_::_::_::_::r.l.map txR) (List.Sublist.cons _ (List.Sublist.cons_cons _ (List.Sublist.cons _ (List.Sublist.refl _))))
   have h2:=h1.perm (List.perm_append_singleton _ _).symm
   show Hp N0 w0 w (_::_::_::(r.l++ [_]).map txR)
   rw [List.map_append]
   exact h2
 ·((conv=>whnf);repeat' ((first|((with_reducible refine br_id ?_);((with_reducible refine br_dec (fun hx=>?_) (fun hx=>?_))<;>(try (exfalso;first|omega|contradiction))))|((with_reducible refine cn_id ?_);(refine cn rfl ?_))|((with_reducible refine ldn_id ?_);(apply lda_hs hp;(focus repeat' constructor);exact rfl))|((with_reducible refine st_id ?_);(apply sta_hs hp;(focus repeat' constructor);exact rfl;exact rfl;clear hp;intro w hp;(try dsimp only [List.set] at hp))))<;>(conv=>whnf)))
  rw [List.take_of_length_le hge] at hr
  refine ps_val (v':=r.pv) rfl ⟨r,hr,rfl,hp.made (List.Sublist.cons _ (List.Sublist.cons _ (List.Sublist.refl _)))⟩
end Go.Proofs.YteabebmlclgakaaGreat
/- PayIds: the ids of a payload's tiers. -/
namespace Go.Proofs.YteabebmlclgakaaGreat
open Go.RowKit
set_option maxRecDepth 100000
set_option maxHeartbeats 2000000
abbrev idsP (p:Payload):List Id:=p.l.map fun t=>shaV t.tx.l
theorem ids_any {B:Nat} {w0:World} {p:Payload} (h:PayAt B w0 p) (hBw:B≤w0.heap.size) (hf:fewP p=true):Calls Tryz.prog 194 #[p.pv] w0 fun e w'=>∃r:Sl Id,r.l=idsP p∧e= .returned r.v∧Made (rowR 44 32 Id.c r) w0 w':=by
 obtain ⟨hf1,hf2⟩:=fewP_at hf
 have hp:=Hp.start (S:=N0) w0
 have hB:∀b,N0 b→B≤b:=fun _ hh=>hh.elim
 have u1:=Tryz.underlying45
 refine calls_x (args:= [_]) tabOk Tryz.func194 Tryz.ntmps194 Tryz.results194 rfl (Nat.le_of_ble_eq_true rfl) ?_
 ((conv=>whnf);repeat' ((first|((with_reducible refine ld_id ?_);(apply ld_hs hp;(focus repeat' constructor);exact rfl))|((with_reducible refine al_id ?_);(refine al_cel hp ?_;clear hp;intro bb w hp))|((with_reducible refine gen_id ?_);(apply gen_len;exact rfl;exact rfl;assumption)))<;>(conv=>whnf)))
 obtain ⟨b1,hb1⟩:∃b1,b1=bb:=⟨_,rfl⟩
 subst hb1
 have hp0:Hp N0 w0 w [rowR 44 32 Id.c Sl.nil]:=(hp.new (Chg.refl _ _) (r:=rowR 44 32 Id.c Sl.nil) (rowR_ok.2 ⟨World.ownsRow_nil w 0 _ _,by simp [Sl.nil]⟩) fun b hb=>by have h1:=rowR_dom.1 hb;cases h1).sub (List.Sublist.cons_cons _ (List.nil_sublist _))
 clear hp
 refine lp_inv (α:=Nat×Sl Id) (fun a=> [(3,a.2.v),(7,p.v),(8,i64 p.l.length),(9,i64 a.1)]) (fun a w=>a.1≤p.l.length∧a.2.l=(idsP p).take a.1∧Hp N0 w0 w [rowR 44 32 Id.c a.2]) (fun a=>p.l.length - a.1) (0,Sl.nil) (by (repeat' (first|exact trivial|(refine ⟨rfl,?_⟩)))) ⟨by omega,by simp [Sl.nil],hp0⟩ ?_
 clear hp0
 rintro ⟨i,r⟩ e0 w ⟨hi,hr,hp⟩
 dsimp only at hi hr hp ⊢
 rcases Nat.lt_or_ge i p.l.length with hlt|hge
 ·obtain ⟨b,o,x,hA,hb,hrow,hxx⟩:=h.row.has hlt
  have hmem:=List.mem_of_getElem? hxx
  have hrl:r.l.length=i:=by rw [hr,List.length_take,List.length_map];omega
  have hid:(idsP p)[i]? =some (shaV x.tx.l):=by simp [hxx]
  obtain ⟨X,hX⟩:∃X,shaV x.tx.l=X:=⟨_,rfl⟩
  rw [hX] at hid
  ((conv=>whnf);repeat' ((first|((with_reducible refine br_id ?_);((with_reducible refine br_dec (fun hx=>?_) (fun hx=>?_))<;>(try (exfalso;first|omega|contradiction))))|((with_reducible refine cn_id ?_);(refine cn rfl ?_))|((with_reducible refine ld_id ?_);(apply ld_hs hp;(focus repeat' constructor);exact rfl))|((with_reducible refine ldn_id ?_);((refine ldn_rowx hp hB ‹_› ‹_› _ rfl ‹_› rfl ?_)))|((with_reducible refine al_id ?_);(refine al_cel hp ?_;clear hp;intro bb w hp))|((with_reducible refine st_id ?_);(apply sta_hs hp;(focus repeat' constructor);exact rfl;exact rfl;clear hp;intro w hp;(try dsimp only [List.set] at hp)))|((with_reducible refine gen_id ?_);((refine gen_ixs rfl rfl ‹_› rfl rfl (by omega) ?_))))<;>(conv=>whnf)))
  refine cl_of (txid_any ((h.tx x hmem).keep hp.chg hB) (Nat.le_trans hBw hp.chg.size) (by have:=hf1 x hmem;omega)) ?_
  rintro e w ⟨rfl,hc⟩
  replace hp:=hp.call0 hc
  refine ⟨_,rfl,?_⟩
  rw [hX]
  ((conv=>whnf);repeat' ((first|((with_reducible refine ar_id ?_);(refine ar_i64 (by omega) ?_))|((with_reducible refine gen_id ?_);first|((refine gen_bs rfl hp el_id Id.c [X] [X.v] rfl rfl rfl (fun _ hh=>by simp at hh;subst hh;rfl) (by omega) ?_);clear hp;intro br w hp)|((refine gen_app (s:=r) rfl hp 2 rfl el_id rfl ⟨some ⟨br,0,none⟩,1, [X]⟩ rfl (hp.row (j:=0) rfl) (fun _ _=>rfl) idL_one (by simp only [List.length_cons,List.length_nil];omega) (by simp only [maxLen,List.length_cons,List.length_nil];omega) ?_);clear hp;intro A2 c2 w hp;dsimp only [List.set] at hp)))<;>(conv=>whnf)))
  refine lp_next (i+1,⟨A2,c2,r.l++ [X]⟩) ?_ (by (repeat' (first|exact trivial|(refine ⟨rfl,?_⟩)))) ⟨by show i+1≤_;omega,?_,hp.tail.tail⟩
  ·show p.l.length - (i+1) < p.l.length - i;omega
  ·show r.l++ [X]=(idsP p).take (i+1)
   rw [List.take_add_one,hid,hr]
   rfl
 ·((conv=>whnf);repeat' (((with_reducible refine br_id ?_);((with_reducible refine br_dec (fun hx=>?_) (fun hx=>?_))<;>(try (exfalso;first|omega|contradiction))))<;>(conv=>whnf)))
  refine ps_val (v':=r.v) rfl ⟨r,?_,rfl,hp.made1 (j:=0) rfl⟩
  rw [hr,List.take_of_length_le (by rw [List.length_map];exact hge)]
end Go.Proofs.YteabebmlclgakaaGreat
/- Job1: the table of jobs: what it holds, its small functions. No condition. -/
namespace Go.Proofs.YteabebmlclgakaaGreat
open Go.RowKit
set_option maxRecDepth 100000
set_option maxHeartbeats 2000000
theorem lku_mem {κ ν:Type} [DecidableEq κ] {k:κ} {v:ν}:∀{l:List (κ×ν)},l.lookup k=some v→(k,v)∈l
 | [],h=>by simp at h
 |p::l,h=>by
  rw [List.lookup_cons] at h
  by_cases hk:k=p.1
  ·have hb:(k==p.1)=true:=by simpa using hk
   rw [hb] at h
   cases h
   subst hk
   simp
  ·have hb:(k==p.1)=false:=by simpa using hk
   rw [hb] at h
   exact List.mem_cons_of_mem _ (lku_mem h)
structure JobP where
 key:Key
 breach:Id
 height:UInt32
 mined:UInt32
 live:Int
 tiers:List (UInt32×List UInt8)
deriving DecidableEq
def Job.p (j:Job):JobP:=⟨j.key,j.breach,j.height,j.mined,j.live,j.pay.l.map tk⟩
def rightJ (j:Job):Bool:=rightP j.pay && decide (j.height.toNat≠0∧ -1≤j.live∧j.live < (j.pay.l.length:Int)∧(j.mined.toNat=0∨j.live= -1))
theorem el_job:ElT Tryz.prog 29 49 38 80:=elt_of (z:=Job.v ⟨⟨0,0⟩,Id.z,0,0,0,Sl.nil⟩) Tryz.underlying29 (by kernel_rfl) rfl (by omega)
theorem job_one {l:List Job}:∀x∈l,∀u∈Job.c x,u.oneCell'=true:=fun x _ u hu=>List.all_eq_true.1 (show (Job.c x).all Value.oneCell'=true from rfl) u hu
structure EntB where
 b:Nat
 job:Job
 ids:Sl Id
abbrev EntB.c (x:EntB):List Value:=(u32 x.job.key.ses::u32 x.job.key.seq::u8 x.job.breach[0]::u8 x.job.breach[1]::u8 x.job.breach[2]::u8 x.job.breach[3]::u8 x.job.breach[4]::u8 x.job.breach[5]::u8 x.job.breach[6]::u8 x.job.breach[7]::u8 x.job.breach[8]::u8 x.job.breach[9]::u8 x.job.breach[10]::u8 x.job.breach[11]::u8 x.job.breach[12]::u8 x.job.breach[13]::u8 x.job.breach[14]::u8 x.job.breach[15]::u8 x.job.breach[16]::u8 x.job.breach[17]::u8 x.job.breach[18]::u8 x.job.breach[19]::u8 x.job.breach[20]::u8 x.job.breach[21]::u8 x.job.breach[22]::u8 x.job.breach[23]::u8 x.job.breach[24]::u8 x.job.breach[25]::u8 x.job.breach[26]::u8 x.job.breach[27]::u8 x.job.breach[28]::u8 x.job.breach[29]::u8 x.job.breach[30]::u8 x.job.breach[31]::u32 x.job.height::u32 x.job.mined::i64 x.job.live::x.job.pay.v::x.ids.v:: [])
def ptO:Option EntB→Value
 |none=>.pointer none
 |some x=>ptr x.b
def ol (l:List (Key×EntB)):List (Key×Option EntB):=l.map fun p=>(p.1,some p.2)
theorem ol_keys (l:List (Key×EntB)):(ol l).map (·.1)=l.map (·.1):=by simp [ol,List.map_map,Function.comp_def]
theorem ol_lookup (k:Key):∀l:List (Key×EntB),((ol l).lookup k).getD none=l.lookup k∧((ol l).lookup k).isSome=(l.lookup k).isSome
 | []=>⟨rfl,rfl⟩
 |p::l=>by
  have ih:=ol_lookup k l
  unfold ol at ih ⊢
  rw [List.map_cons,List.lookup_cons,List.lookup_cons]
  by_cases hk:k=p.1
  ·have hb:(k==p.1)=true:=by simpa using hk
   rw [hb]
   exact ⟨rfl,rfl⟩
  ·have hb:(k==p.1)=false:=by simpa using hk
   rw [hb]
   exact ih
abbrev jentRs (p:Key×EntB):List Res:=cel p.2.b 198 (EntB.c p.2).toArray::rowR 44 32 Id.c p.2.ids::payRs p.2.job.pay
def jentR (p:Key×EntB):Res:=star (jentRs p)
abbrev jtRs (b m:Nat) (ord:Sl Key) (l:List (Key×EntB)):List Res:=cel b 181 #[.map (some m),ord.v]::mapR Key.v ptO m (ol l)::rowR 42 2 Key.c ord::l.map jentR
structure JentAt (w:World) (p:Key×EntB):Prop where
 cel:w.heap[p.2.b]? =some (.cells (EntB.c p.2).toArray 198)
 ids:SlAt w.heap.size w Id.c 32 p.2.ids
 pay:PayAt w.heap.size w p.2.job.pay
structure JtAt (w:World) (b m:Nat) (ord:Sl Key) (l:List (Key×EntB)):Prop where
 cel:w.heap[b]? =some (.cells #[.map (some m),ord.v] 181)
 map:MapAt Key.v ptO w m (ol l)
 ord:SlAt w.heap.size w Key.c 2 ord
 ent:∀p∈l,JentAt w p
theorem jentAt {w:World} {p:Key×EntB} (h:(jentR p).ok w):JentAt w p:=by
 have hp:=Hp.open (show (star (jentRs p)).ok w from h)
 exact ⟨hp.cel_get (j:=0) rfl,hp.row (j:=1) rfl,payRs_at hp (List.Sublist.cons _ (List.Sublist.cons _ (List.Sublist.refl _)))⟩
theorem jtAt {w:World} {b m:Nat} {ord:Sl Key} {l:List (Key×EntB)} (h:(star (jtRs b m ord l)).ok w):JtAt w b m ord l:=by
 have hp:=Hp.open h
 exact ⟨hp.cel_get (j:=0) rfl,mapR_ok.1 (hp.get (j:=1) rfl),hp.row (j:=2) rfl,fun p hm=>jentAt (hp.ok (jentR p) (List.mem_cons_of_mem _ (List.mem_cons_of_mem _ (List.mem_cons_of_mem _ (List.mem_map_of_mem hm)))))⟩
theorem PayAt.keep0 {w w':World} {p:Payload} (h:PayAt w.heap.size w p) (hc:Chg N0 w w'):PayAt w'.heap.size w' p:=
 ⟨(h.row.keep hc fun _ hh=>hh.elim).more hc.size,fun t ht=>((h.tx t ht).keep hc fun _ hh=>hh.elim).more hc.size⟩
theorem JentAt.keep0 {w w':World} {p:Key×EntB} (h:JentAt w p) (hc:Chg N0 w w'):JentAt w' p:=
 ⟨hc.heap0 h.cel,(h.ids.keep hc fun _ hh=>hh.elim).more hc.size,h.pay.keep0 hc⟩
theorem JtAt.keep0 {w w':World} {b m:Nat} {ord:Sl Key} {l:List (Key×EntB)} (h:JtAt w b m ord l) (hc:Chg N0 w w'):JtAt w' b m ord l:=
 ⟨hc.heap0 h.cel,h.map.keep0 hc,(h.ord.keep hc fun _ hh=>hh.elim).more hc.size,fun p hm=>(h.ent p hm).keep0 hc⟩
theorem JtAt.c0 {w:World} {b m:Nat} {ord:Sl Key} {l:List (Key×EntB)} (h:JtAt w b m ord l):w.cell? ⟨b,0,none⟩=some (.map (some m)):=cell_of_heap h.cel rfl
theorem JtAt.c1 {w:World} {b m:Nat} {ord:Sl Key} {l:List (Key×EntB)} (h:JtAt w b m ord l):w.cell? ⟨b,1,none⟩=some ord.v:=cell_of_heap h.cel rfl
structure JtI (ord:List Key) (l:List (Key×EntB)):Prop where
 ord:ord=l.map (·.1)
 nd:(l.map (·.1)).Nodup
 key:∀p∈l,p.2.job.key=p.1
 right:∀p∈l,rightJ p.2.job=true
 ids:∀p∈l,p.2.ids.l=idsP p.2.job.pay
theorem jnew_any (w0:World):Calls Tryz.prog 65 #[] w0 fun e w'=>∃b m,e= .returned (ptr b)∧Made (star (jtRs b m Sl.nil [])) w0 w':=by
 have hp:=Hp.start (S:=N0) w0
 refine calls_x (args:= []) tabOk Tryz.func65 Tryz.ntmps65 Tryz.results65 rfl (Nat.le_of_ble_eq_true rfl) ?_
 ((conv=>whnf);repeat' ((first|((with_reducible refine al_id ?_);(refine al_cel hp ?_;clear hp;intro bb w hp))|((with_reducible refine gen_id ?_);first|((refine gen_mmake rfl Key.v ptO hp ?_);clear hp;intro bb w hp)|(apply gen_build;exact rfl;exact rfl)))<;>(conv=>whnf)))
 replace hp:=hp.nilRow 42 2 Key.c
 exact ps_of ⟨_,_,rfl,(hp.perm (rs':= [_,_,_]) ((List.Perm.swap ..).trans (.cons _ (.swap ..)))).made (.refl _)⟩
theorem jabsent_any {w0:World} {b m:Nat} (hc:w0.cell? ⟨b,0,none⟩=some (.map (some m))):Calls Tryz.prog 192 #[ptr b] w0 fun e w'=>e= .returned (.bool false)∧Chg N0 w0 w':=by
 have hp:=Hp.start (S:=N0) w0
 refine calls_x (args:= [_]) tabOk Tryz.func192 Tryz.ntmps192 Tryz.results192 rfl (Nat.le_of_ble_eq_true rfl) ?_
 ((conv=>whnf);repeat' ((first|((with_reducible refine br_id ?_);(with_reducible refine br_f ?_))|((with_reducible refine ld_id ?_);((refine ld_of (hp.chg.cell0 hc) ?_))))<;>(conv=>whnf)))
 exact ps_val (v':= .bool false) rfl ⟨rfl,hp.chg⟩
theorem jright_any {B:Nat} {w0:World} {j:Job} (h:PayAt B w0 j.pay) (hl: -9223372036854775808≤j.live∧j.live≤9223372036854775807):Calls Tryz.prog 193 #[j.v] w0 fun e w'=>e= .returned (.bool (rightJ j))∧Chg N0 w0 w':=by
 have hp:=Hp.start (S:=N0) w0
 have hB:∀b,N0 b→B≤b:=fun _ hh=>hh.elim
 have u1:=Tryz.underlying45
 have hmax:j.pay.l.length≤9223372036854775807:=by have:=h.row.le;have:=h.row.max;simp only [maxLen] at this;omega
 obtain ⟨q,hq⟩:∃q,rightP j.pay=q:=⟨_,rfl⟩
 have hr:rightJ j=(q && decide (j.height.toNat≠0∧ -1≤j.live∧j.live < (j.pay.l.length:Int)∧(j.mined.toNat=0∨j.live= -1))):=by unfold rightJ;rw [hq]
 have hcall:∀{w:World},Chg N0 w0 w→Calls Tryz.prog 216 #[j.pay.pv] w fun e w'=>e= .returned (.bool q)∧Chg N0 w w':=fun hc=>by rw [←hq];exact rightp_any (h.keep hc hB)
 rw [hr]
 refine calls_x (args:= [_]) tabOk Tryz.func193 Tryz.ntmps193 Tryz.results193 rfl (Nat.le_of_ble_eq_true rfl) ?_
 cases q with
 |false=>
  ((conv=>whnf);repeat' ((first|((with_reducible refine br_id ?_);(with_reducible refine br_f ?_))|((with_reducible refine ldn_id ?_);(apply ldn_hs hp;(focus repeat' constructor);exact rfl;exact rfl))|((with_reducible refine al_id ?_);(refine al_cel hp ?_;clear hp;intro bb w hp))|((with_reducible refine cl_id ?_);((refine cl_eq ((hcall hp.chg)) rfl rfl ?_;rintro e w ⟨rfl,hcc⟩;replace hp:=hp.call0 hcc;refine ⟨_,rfl,?_⟩))))<;>(conv=>whnf)))
  exact ps_val (v':= .bool false) rfl ⟨rfl,hp.chg⟩
 |true=>
  ((conv=>whnf);repeat' ((first|((with_reducible refine br_id ?_);first|(with_reducible refine br_t ?_)|(with_reducible refine br_f ?_)|((with_reducible refine br_dec (fun hx=>?_) (fun hx=>?_))<;>(try (exfalso;first|omega|contradiction)))|((with_reducible refine br_eq (fun hx=>?_) (fun hx=>?_))<;>(try (exfalso;first|omega|contradiction)))|((with_reducible refine br_ne (fun hx=>?_) (fun hx=>?_))<;>(try (exfalso;first|omega|contradiction))))|((with_reducible refine ld_id ?_);(apply ld_hs hp;(focus repeat' constructor);exact rfl))|((with_reducible refine ldn_id ?_);(apply ldn_hs hp;(focus repeat' constructor);exact rfl;exact rfl))|((with_reducible refine al_id ?_);(refine al_cel hp ?_;clear hp;intro bb w hp))|((with_reducible refine gen_id ?_);(apply gen_len;exact rfl;exact rfl;assumption))|((with_reducible refine cl_id ?_);((refine cl_eq ((hcall hp.chg)) rfl rfl ?_;rintro e w ⟨rfl,hcc⟩;replace hp:=hp.call0 hcc;refine ⟨_,rfl,?_⟩))))<;>(conv=>whnf)))
  all_goals first
   |exact ps_val (v':= .bool false) rfl ⟨by rw [Bool.true_and,decide_eq_false (by omega)],hp.chg⟩
   |exact ps_val (v':= .bool true) rfl ⟨by rw [Bool.true_and,decide_eq_true (by omega)],hp.chg⟩
   |exact ps_val (v':= .bool (decide (j.live= -1))) rfl ⟨by rw [Bool.true_and];exact congrArg (fun b=>Ending.returned (.bool b)) (decide_eq_decide.2 (by omega)),hp.chg⟩
theorem rightJ_pay {j:Job} (h:rightJ j=true):rightP j.pay=true:=by
 unfold rightJ at h
 rw [Bool.and_eq_true] at h
 exact h.1
theorem rightP_few {p:Payload} (h:rightP p=true):fewP p=true:=by
 obtain ⟨_,h2,h3⟩:=rightP_at h
 unfold fewP
 rw [Bool.and_eq_true,List.all_eq_true]
 exact ⟨fun t ht=>decide_eq_true (by have:=h3 t ht;omega),decide_eq_true (by omega)⟩
theorem jown_any {B:Nat} {w0:World} {j:Job} (h:PayAt B w0 j.pay) (hBw:B≤w0.heap.size) (hf:fewP j.pay=true):Calls Tryz.prog 126 #[j.v] w0 fun e w'=>∃r:Payload,r.l.map tk=j.pay.l.map tk∧e= .returned (Job.v {j with pay:=r})∧Made (star (payRs r)) w0 w':=by
 have hp:=Hp.start (S:=N0) w0
 have hB:∀b,N0 b→B≤b:=fun _ hh=>hh.elim
 refine calls_x (args:= [_]) tabOk Tryz.func126 Tryz.ntmps126 Tryz.results126 rfl (Nat.le_of_ble_eq_true rfl) ?_
 ((conv=>whnf);repeat' ((first|((with_reducible refine ldn_id ?_);(apply ldn_hs hp;(focus repeat' constructor);exact rfl;exact rfl))|((with_reducible refine al_id ?_);(refine al_cel hp ?_;clear hp;intro bb w hp)))<;>(conv=>whnf)))
 refine cl_eq (copyp_any (h.keep hp.chg hB) (Nat.le_trans hBw hp.chg.size) hf) rfl rfl ?_
 rintro e w ⟨r,hr,rfl,hm⟩
 replace hp:=hp.add hm
 clear hm
 refine ⟨_,rfl,?_⟩
 ((conv=>whnf);repeat' ((first|((with_reducible refine cn_id ?_);(refine cn rfl ?_))|((with_reducible refine ldn_id ?_);(apply lda_hs hp;(focus repeat' constructor);exact rfl))|((with_reducible refine st_id ?_);first|(apply sta_hs hp;(focus repeat' constructor);exact rfl;exact rfl;clear hp;intro w hp;(try dsimp only [List.set] at hp))|(apply st_hs hp;(focus repeat' constructor);exact rfl;exact rfl;clear hp;intro w hp;(try dsimp only [List.set] at hp))))<;>(conv=>whnf)))
 exact ps_val (v':=Job.v {j with pay:=r}) rfl ⟨r,hr,rfl,hp.made1 (j:=0) rfl⟩
theorem jat_any {w0:World} {b m:Nat} {ord:Sl Key} {l:List (Key×EntB)} (h:JtAt w0 b m ord l) (k:Key):Calls Tryz.prog 195 #[ptr b,k.v] w0 fun e w'=>e= .returned (ptO (l.lookup k))∧Chg N0 w0 w':=by
 have hp:=Hp.start (S:=N0) w0
 have hv:=(ol_lookup k l).1
 cases hlk:l.lookup k with
 |none=>
  rw [hlk] at hv
  refine calls_x (args:= [_,_]) tabOk Tryz.func195 Tryz.ntmps195 Tryz.results195 rfl (Nat.le_of_ble_eq_true rfl) ?_
  ((conv=>whnf);repeat' ((first|((with_reducible refine br_id ?_);(with_reducible refine br_f ?_))|((with_reducible refine ld_id ?_);((refine ld_of (hp.chg.cell0 h.c0) ?_)))|((with_reducible refine ldn_id ?_);(apply lda_hs hp;(focus repeat' constructor);exact rfl))|((with_reducible refine al_id ?_);(refine al_cel hp ?_;clear hp;intro bb w hp))|((with_reducible refine dr_id ?_);(refine dr_auto tabOk (by kernel_rfl) (by decide+kernel) ?_;(try replace hp:=hp.drew)))|((with_reducible refine cl_id ?_);((refine cl_eq ((jabsent_any (hp.chg.cell0 h.c0))) rfl rfl ?_;rintro e w ⟨rfl,hcc⟩;replace hp:=hp.call0 hcc;refine ⟨_,rfl,?_⟩)))|((with_reducible refine rd_id ?_);((refine rd_lookM rfl (h.map.keep0 hp.chg) rfl keyK Tryz.underlying179 (z:=none) rfl k rfl hv ?_))))<;>(conv=>whnf)))
  exact ps_val (v':= .pointer none) rfl ⟨rfl,hp.chg⟩
 |some x=>
  rw [hlk] at hv
  refine calls_x (args:= [_,_]) tabOk Tryz.func195 Tryz.ntmps195 Tryz.results195 rfl (Nat.le_of_ble_eq_true rfl) ?_
  ((conv=>whnf);repeat' ((first|((with_reducible refine br_id ?_);(with_reducible refine br_f ?_))|((with_reducible refine ld_id ?_);((refine ld_of (hp.chg.cell0 h.c0) ?_)))|((with_reducible refine ldn_id ?_);(apply lda_hs hp;(focus repeat' constructor);exact rfl))|((with_reducible refine al_id ?_);(refine al_cel hp ?_;clear hp;intro bb w hp))|((with_reducible refine dr_id ?_);(refine dr_auto tabOk (by kernel_rfl) (by decide+kernel) ?_;(try replace hp:=hp.drew)))|((with_reducible refine cl_id ?_);((refine cl_eq ((jabsent_any (hp.chg.cell0 h.c0))) rfl rfl ?_;rintro e w ⟨rfl,hcc⟩;replace hp:=hp.call0 hcc;refine ⟨_,rfl,?_⟩)))|((with_reducible refine rd_id ?_);((refine rd_lookM rfl (h.map.keep0 hp.chg) rfl keyK Tryz.underlying179 (z:=none) rfl k rfl hv ?_))))<;>(conv=>whnf)))
  exact ps_val (v':=ptr x.b) rfl ⟨rfl,hp.chg⟩
theorem elive_any {w0:World} {x:EntB} (h:(cel x.b 198 (EntB.c x).toArray).ok w0) (t:Int):Calls Tryz.prog 132 #[ptr x.b,i64 t] w0 fun e w'=>e= .returned (.tuple #[])∧Mut (cel x.b 198 (EntB.c x).toArray) (cel x.b 198 (EntB.c {x with job:={x.job with live:=t}}).toArray) w0 w':=by
 have hp:=Hp.start1 h
 refine calls_x (args:= [_,_]) tabOk Tryz.func132 Tryz.ntmps132 Tryz.results132 rfl (Nat.le_of_ble_eq_true rfl) ?_
 ((conv=>whnf);repeat' ((first|((with_reducible refine cn_id ?_);(refine cn rfl ?_))|((with_reducible refine st_id ?_);(apply st_hs hp;(focus repeat' constructor);exact rfl;exact rfl;clear hp;intro w hp;(try dsimp only [List.set] at hp))))<;>(conv=>whnf)))
 exact ps_val (v':= .tuple #[]) rfl ⟨rfl,hp.shut1 (j:=0) rfl⟩
end Go.Proofs.YteabebmlclgakaaGreat
/- StaP: states as they are told; states of the call's own. No condition. -/
namespace Go.Proofs.YteabebmlclgakaaGreat
open Go.RowKit
set_option maxRecDepth 100000
set_option maxHeartbeats 2000000
structure BlkP where
 hash:Id
 parent:Id
 txs:List Id
deriving DecidableEq
def Blk.p (x:Blk):BlkP:=⟨x.hash,x.parent,x.tx.l⟩
structure StaP where
 cfg:Cfg
 ht:UInt32
 halt:Int
 next:UInt32
 win:List BlkP
 ses:List Sess
 blobs:List BlP
 jobs:List JobP
deriving DecidableEq
def Sta.p (x:Sta):StaP:=⟨x.cfg,x.ht,x.halt,x.next,x.win.l.map Blk.p,x.ses.l,x.blobs.l.map Blob.p,x.jobs.l.map Job.p⟩
abbrev btxR (b:Blk):Res:=rowR 44 32 Id.c b.tx
def jpayR (j:Job):Res:=star (payRs j.pay)
abbrev winRs (s:Sl Blk):List Res:=rowR 54 65 Blk.c s::s.l.map btxR
abbrev jobRs (s:Sl Job):List Res:=rowR 49 38 Job.c s::s.l.map jpayR
theorem winRs_at {w:World} {s:Sl Blk} (h:(star (winRs s)).ok w):SlAt w.heap.size w Blk.c 65 s∧∀b∈s.l,SlAt w.heap.size w Id.c 32 b.tx:=by
 have hp:=Hp.open h
 exact ⟨hp.row (j:=0) rfl,fun b hb=>rowR_at (e:=44) (hp.ok (btxR b) (List.mem_cons_of_mem _ (List.mem_map_of_mem hb)))⟩
theorem jobRs_at {w:World} {s:Sl Job} (h:(star (jobRs s)).ok w):SlAt w.heap.size w Job.c 38 s∧∀j∈s.l,PayAt w.heap.size w j.pay:=by
 have hp:=Hp.open h
 refine ⟨hp.row (j:=0) rfl,fun j hj=>?_⟩
 have h1:(jpayR j).ok w:=hp.ok (jpayR j) (List.mem_cons_of_mem _ (List.mem_map_of_mem hj))
 exact payRs_at (Hp.open (show (star (payRs j.pay)).ok w from h1)) (List.Sublist.refl _)
end Go.Proofs.YteabebmlclgakaaGreat
