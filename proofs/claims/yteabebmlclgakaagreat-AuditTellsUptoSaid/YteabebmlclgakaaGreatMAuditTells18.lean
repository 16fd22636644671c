/- MAuditTells18: PayIds, Job1, StaP, ChLoad. -/
import Derived.Test.YteabebmlclgakaaGreatMAuditTells17
import Derived.Test.YteabebmlclgakaaGreatMAuditTells7
import Derived.Test.YteabebmlclgakaaGreatMAuditTells11
import Derived.Test.YteabebmlclgakaaGreatMAuditTells13
set_option linter.unusedSimpArgs false
set_option linter.unusedVariables false
/- PayIds: the ids of a payload's tiers. -/
namespace Go.Proofs.YteabebmlclgakaaGreat
open Go.RowKit
set_option maxRecDepth 100000
set_option maxHeartbeats 2000000
abbrev idsP (p:Payload):List Id:=p.l.map fun t=>shaV t.tx.l
theorem ids_any {B:Nat} {w0:World} {p:Payload} (h:PayAt B w0 p) (hBw:B≤w0.heap.size) (hf:fewP p=true):Calls Tryz.prog 194 #[p.pv] w0 fun e w'=>∃r:Sl Id,r.l=idsP p∧e= .returned r.v∧Made (rowR 44 32 Id.c r) w0 w':=by
 obtain ⟨hf1,hf2⟩:=fewP_at hf
 have hp:=Hp.start (S:=N0) w0
 have hB:∀b,N0 b→B≤b:=fun _ hh=>hh.elim
 have u1:=Tryz.underlying45
 refine calls_x (args:= [_]) tabOk Tryz.func194 Tryz.ntmps194 Tryz.results194 rfl (Nat.le_of_ble_eq_true rfl) ?_
 ((conv=>whnf);repeat' ((first|((with_reducible refine ld_id ?_);(apply ld_hs hp;(focus repeat' constructor);exact rfl))|((with_reducible refine al_id ?_);(refine al_cel hp ?_;clear hp;intro bb w hp))|((with_reducible refine gen_id ?_);(apply gen_len;exact rfl;exact rfl;assumption)))<;>(conv=>whnf)))
 obtain ⟨b1,hb1⟩:∃b1,b1=bb:=⟨_,rfl⟩
 subst hb1
 have hp0:Hp N0 w0 w [rowR 44 32 Id.c Sl.nil]:=(hp.new (Chg.refl _ _) (r:=rowR 44 32 Id.c Sl.nil) (rowR_ok.2 ⟨World.ownsRow_nil w 0 _ _,by simp [Sl.nil]⟩) fun b hb=>by have h1:=rowR_dom.1 hb;cases h1).sub (List.Sublist.cons_cons _ (List.nil_sublist _))
 clear hp
 refine lp_inv (α:=Nat×Sl Id) (fun a=> [(3,a.2.v),(7,p.v),(8,i64 p.l.length),(9,i64 a.1)]) (fun a w=>a.1≤p.l.length∧a.2.l=(idsP p).take a.1∧Hp N0 w0 w [rowR 44 32 Id.c a.2]) (fun a=>p.l.length - a.1) (0,Sl.nil) (by (repeat' (first|exact trivial|(refine ⟨rfl,?_⟩)))) ⟨by omega,by simp [Sl.nil],hp0⟩ ?_
 clear hp0
 rintro ⟨i,r⟩ e0 w ⟨hi,hr,hp⟩
 dsimp only at hi hr hp ⊢
 rcases Nat.lt_or_ge i p.l.length with hlt|hge
 ·obtain ⟨b,o,x,hA,hb,hrow,hxx⟩:=h.row.has hlt
  have hmem:=List.mem_of_getElem? hxx
  have hrl:r.l.length=i:=by rw [hr,List.length_take,List.length_map];omega
  have hid:(idsP p)[i]? =some (shaV x.tx.l):=by simp [hxx]
  obtain ⟨X,hX⟩:∃X,shaV x.tx.l=X:=⟨_,rfl⟩
  rw [hX] at hid
  ((conv=>whnf);repeat' ((first|((with_reducible refine br_id ?_);((with_reducible refine br_dec (fun hx=>?_) (fun hx=>?_))<;>(try (exfalso;first|omega|contradiction))))|((with_reducible refine cn_id ?_);(refine cn rfl ?_))|((with_reducible refine ld_id ?_);(apply ld_hs hp;(focus repeat' constructor);exact rfl))|((with_reducible refine ldn_id ?_);((refine ldn_rowx hp hB ‹_› ‹_› _ rfl ‹_› rfl ?_)))|((with_reducible refine al_id ?_);(refine al_cel hp ?_;clear hp;intro bb w hp))|((with_reducible refine st_id ?_);(apply sta_hs hp;(focus repeat' constructor);exact rfl;exact rfl;clear hp;intro w hp;(try dsimp only [List.set] at hp)))|((with_reducible refine gen_id ?_);((refine gen_ixs rfl rfl ‹_› rfl rfl (by omega) ?_))))<;>(conv=>whnf)))
  refine cl_of (txid_any ((h.tx x hmem).keep hp.chg hB) (Nat.le_trans hBw hp.chg.size) (by have:=hf1 x hmem;omega)) ?_
  rintro e w ⟨rfl,hc⟩
  replace hp:=hp.call0 hc
  refine ⟨_,rfl,?_⟩
  rw [hX]
  ((conv=>whnf);repeat' ((first|((with_reducible refine ar_id ?_);(refine ar_i64 (by omega) ?_))|((with_reducible refine gen_id ?_);first|((refine gen_bs rfl hp el_id Id.c [X] [X.v] rfl rfl rfl (fun _ hh=>by simp at hh;subst hh;rfl) (by omega) ?_);clear hp;intro br w hp)|((refine gen_app (s:=r) rfl hp 2 rfl el_id rfl ⟨some ⟨br,0,none⟩,1, [X]⟩ rfl (hp.row (j:=0) rfl) (fun _ _=>rfl) idL_one (by simp only [List.length_cons,List.length_nil];omega) (by simp only [maxLen,List.length_cons,List.length_nil];omega) ?_);clear hp;intro A2 c2 w hp;dsimp only [List.set] at hp)))<;>(conv=>whnf)))
  refine lp_next (i+1,⟨A2,c2,r.l++ [X]⟩) ?_ (by (repeat' (first|exact trivial|(refine ⟨rfl,?_⟩)))) ⟨by show i+1≤_;omega,?_,hp.tail.tail⟩
  ·show p.l.length - (i+1) < p.l.length - i;omega
  ·show r.l++ [X]=(idsP p).take (i+1)
   rw [List.take_add_one,hid,hr]
   rfl
 ·((conv=>whnf);repeat' (((with_reducible refine br_id ?_);((with_reducible refine br_dec (fun hx=>?_) (fun hx=>?_))<;>(try (exfalso;first|omega|contradiction))))<;>(conv=>whnf)))
  refine ps_val (v':=r.v) rfl ⟨r,?_,rfl,hp.made1 (j:=0) rfl⟩
  rw [hr,List.take_of_length_le (by rw [List.length_map];exact hge)]
end Go.Proofs.YteabebmlclgakaaGreat
/- Job1: the table of jobs: what it holds, its small functions. No condition. -/
namespace Go.Proofs.YteabebmlclgakaaGreat
open Go.RowKit
set_option maxRecDepth 100000
set_option maxHeartbeats 2000000
theorem lku_mem {κ ν:Type} [DecidableEq κ] {k:κ} {v:ν}:∀{l:List (κ×ν)},l.lookup k=some v→(k,v)∈l
 | [],h=>by simp at h
 |p::l,h=>by
  rw [List.lookup_cons] at h
  by_cases hk:k=p.1
  ·have hb:(k==p.1)=true:=by simpa using hk
   rw [hb] at h
   cases h
   subst hk
   simp
  ·have hb:(k==p.1)=false:=by simpa using hk
   rw [hb] at h
   exact List.mem_cons_of_mem _ (lku_mem h)
structure JobP where
 key:Key
 breach:Id
 height:UInt32
 mined:UInt32
 live:Int
 tiers:List (UInt32×List UInt8)
deriving DecidableEq
def Job.p (j:Job):JobP:=⟨j.key,j.breach,j.height,j.mined,j.live,j.pay.l.map tk⟩
def rightJ (j:Job):Bool:=rightP j.pay && decide (j.height.toNat≠0∧ -1≤j.live∧j.live < (j.pay.l.length:Int)∧(j.mined.toNat=0∨j.live= -1))
theorem el_job:ElT Tryz.prog 29 49 38 80:=elt_of (z:=Job.v ⟨⟨0,0⟩,Id.z,0,0,0,Sl.nil⟩) Tryz.underlying29 (by kernel_rfl) rfl (by omega)
structure EntB where
 b:Nat
 job:Job
 ids:Sl Id
abbrev EntB.c (x:EntB):List Value:=(u32 x.job.key.ses::u32 x.job.key.seq::u8 x.job.breach[0]::u8 x.job.breach[1]::u8 x.job.breach[2]::u8 x.job.breach[3]::u8 x.job.breach[4]::u8 x.job.breach[5]::u8 x.job.breach[6]::u8 x.job.breach[7]::u8 x.job.breach[8]::u8 x.job.breach[9]::u8 x.job.breach[10]::u8 x.job.breach[11]::u8 x.job.breach[12]::u8 x.job.breach[13]::u8 x.job.breach[14]::u8 x.job.breach[15]::u8 x.job.breach[16]::u8 x.job.breach[17]::u8 x.job.breach[18]::u8 x.job.breach[19]::u8 x.job.breach[20]::u8 x.job.breach[21]::u8 x.job.breach[22]::u8 x.job.breach[23]::u8 x.job.breach[24]::u8 x.job.breach[25]::u8 x.job.breach[26]::u8 x.job.breach[27]::u8 x.job.breach[28]::u8 x.job.breach[29]::u8 x.job.breach[30]::u8 x.job.breach[31]::u32 x.job.height::u32 x.job.mined::i64 x.job.live::x.job.pay.v::x.ids.v:: [])
def ptO:Option EntB→Value
 |none=>.pointer none
 |some x=>ptr x.b
def ol (l:List (Key×EntB)):List (Key×Option EntB):=l.map fun p=>(p.1,some p.2)
theorem ol_keys (l:List (Key×EntB)):(ol l).map (·.1)=l.map (·.1):=by simp [ol,List.map_map,Function.comp_def]
theorem ol_lookup (k:Key):∀l:List (Key×EntB),((ol l).lookup k).getD none=l.lookup k∧((ol l).lookup k).isSome=(l.lookup k).isSome
 | []=>⟨rfl,rfl⟩
 |p::l=>by
  have ih:=ol_lookup k l
  unfold ol at ih ⊢
  rw [List.map_cons,List.lookup_cons,List.lookup_cons]
  by_cases hk:k=p.1
  ·have hb:(k==p.1)=true:=by simpa using hk
   rw [hb]
   exact ⟨rfl,rfl⟩
  ·have hb:(k==p.1)=false:=by simpa using hk
   rw [hb]
   exact ih
abbrev jentRs (p:Key×EntB):List Res:=cel p.2.b 198 (EntB.c p.2).toArray::rowR 44 32 Id.c p.2.ids::payRs p.2.job.pay
def jentR (p:Key×EntB):Res:=star (jentRs p)
abbrev jtRs (b m:Nat) (ord:Sl Key) (l:List (Key×EntB)):List Res:=cel b 181 #[.map (some m),ord.v]::mapR Key.v ptO m (ol l)::rowR 42 2 Key.c ord::l.map jentR
structure JentAt (w:World) (p:Key×EntB):Prop where
 cel:w.heap[p.2.b]? =some (.cells (EntB.c p.2).toArray 198)
 ids:SlAt w.heap.size w Id.c 32 p.2.ids
 pay:PayAt w.heap.size w p.2.job.pay
structure JtAt (w:World) (b m:Nat) (ord:Sl Key) (l:List (Key×EntB)):Prop where
 cel:w.heap[b]? =some (.cells #[.map (some m),ord.v] 181)
 map:MapAt Key.v ptO w m (ol l)
 ord:SlAt w.heap.size w Key.c 2 ord
 ent:∀p∈l,JentAt w p
theorem jentAt {w:World} {p:Key×EntB} (h:(jentR p).ok w):JentAt w p:=by
 have hp:=Hp.open (show (star (jentRs p)).ok w from h)
 exact ⟨hp.cel_get (j:=0) rfl,hp.row (j:=1) rfl,payRs_at hp (List.Sublist.cons _ (List.Sublist.cons _ (List.Sublist.refl _)))⟩
theorem jtAt {w:World} {b m:Nat} {ord:Sl Key} {l:List (Key×EntB)} (h:(star (jtRs b m ord l)).ok w):JtAt w b m ord l:=by
 have hp:=Hp.open h
 exact ⟨hp.cel_get (j:=0) rfl,mapR_ok.1 (hp.get (j:=1) rfl),hp.row (j:=2) rfl,fun p hm=>jentAt (hp.ok (jentR p) (List.mem_cons_of_mem _ (List.mem_cons_of_mem _ (List.mem_cons_of_mem _ (List.mem_map_of_mem hm)))))⟩
structure JtI (ord:List Key) (l:List (Key×EntB)):Prop where
 ord:ord=l.map (·.1)
 nd:(l.map (·.1)).Nodup
 key:∀p∈l,p.2.job.key=p.1
 right:∀p∈l,rightJ p.2.job=true
 ids:∀p∈l,p.2.ids.l=idsP p.2.job.pay
theorem jnew_any (w0:World):Calls Tryz.prog 65 #[] w0 fun e w'=>∃b m,e= .returned (ptr b)∧Made (star (jtRs b m Sl.nil [])) w0 w':=by
 have hp:=Hp.start (S:=N0) w0
 refine calls_x (args:= []) tabOk Tryz.func65 Tryz.ntmps65 Tryz.results65 rfl (Nat.le_of_ble_eq_true rfl) ?_
 ((conv=>whnf);repeat' ((first|((with_reducible refine al_id ?_);(refine al_cel hp ?_;clear hp;intro bb w hp))|((with_reducible refine gen_id ?_);first|((refine gen_mmake rfl Key.v ptO hp ?_);clear hp;intro bb w hp)|(apply gen_build;exact rfl;exact rfl)))<;>(conv=>whnf)))
 replace hp:=hp.nilRow 42 2 Key.c
 exact ps_of ⟨_,_,rfl,(hp.perm (rs':= [_,_,_]) ((List.Perm.swap ..).trans (.cons _ (.swap ..)))).made (.refl _)⟩
theorem jabsent_any {w0:World} {b m:Nat} (hc:w0.cell? ⟨b,0,none⟩=some (.map (some m))):Calls Tryz.prog 192 #[ptr b] w0 fun e w'=>e= .returned (.bool false)∧Chg N0 w0 w':=by
 have hp:=Hp.start (S:=N0) w0
 refine calls_x (args:= [_]) tabOk Tryz.func192 Tryz.ntmps192 Tryz.results192 rfl (Nat.le_of_ble_eq_true rfl) ?_
 ((conv=>whnf);repeat' ((first|((with_reducible refine br_id ?_);(with_reducible refine br_f ?_))|((with_reducible refine ld_id ?_);((refine ld_of (hp.chg.cell0 hc) ?_))))<;>(conv=>whnf)))
 exact ps_val (v':= .bool false) rfl ⟨rfl,hp.chg⟩
theorem jright_any {B:Nat} {w0:World} {j:Job} (h:PayAt B w0 j.pay) (hl: -9223372036854775808≤j.live∧j.live≤9223372036854775807):Calls Tryz.prog 193 #[j.v] w0 fun e w'=>e= .returned (.bool (rightJ j))∧Chg N0 w0 w':=by
 have hp:=Hp.start (S:=N0) w0
 have hB:∀b,N0 b→B≤b:=fun _ hh=>hh.elim
 have u1:=Tryz.underlying45
 have hmax:j.pay.l.length≤9223372036854775807:=by have:=h.row.le;have:=h.row.max;simp only [maxLen] at this;omega
 obtain ⟨q,hq⟩:∃q,rightP j.pay=q:=⟨_,rfl⟩
 have hr:rightJ j=(q && decide (j.height.toNat≠0∧ -1≤j.live∧j.live < (j.pay.l.length:Int)∧(j.mined.toNat=0∨j.live= -1))):=by unfold rightJ;rw [hq]
 have hcall:∀{w:World},Chg N0 w0 w→Calls Tryz.prog 216 #[j.pay.pv] w fun e w'=>e= .returned (.bool q)∧Chg N0 w w':=fun hc=>by rw [←hq];exact rightp_any (h.keep hc hB)
 rw [hr]
 refine calls_x (args:= [_]) tabOk Tryz.func193 Tryz.ntmps193 Tryz.results193 rfl (Nat.le_of_ble_eq_true rfl) ?_
 cases q with
 |false=>
  ((conv=>whnf);repeat' ((first|((with_reducible refine br_id ?_);(with_reducible refine br_f ?_))|((with_reducible refine ldn_id ?_);(apply ldn_hs hp;(focus repeat' constructor);exact rfl;exact rfl))|((with_reducible refine al_id ?_);(refine al_cel hp ?_;clear hp;intro bb w hp))|((with_reducible refine cl_id ?_);((refine cl_eq ((hcall hp.chg)) rfl rfl ?_;rintro e w ⟨rfl,hcc⟩;replace hp:=hp.call0 hcc;refine ⟨_,rfl,?_⟩))))<;>(conv=>whnf)))
  exact ps_val (v':= .bool false) rfl ⟨rfl,hp.chg⟩
 |true=>
  ((conv=>whnf);repeat' ((first|((with_reducible refine br_id ?_);first|(with_reducible refine br_t ?_)|(with_reducible refine br_f ?_)|((with_reducible refine br_dec (fun hx=>?_) (fun hx=>?_))<;>(try (exfalso;first|omega|contradiction)))|((with_reducible refine br_eq (fun hx=>?_) (fun hx=>?_))<;>(try (exfalso;first|omega|contradiction)))|((with_reducible refine br_ne (fun hx=>?_) (fun hx=>?_))<;>(try (exfalso;first|omega|contradiction))))|((with_reducible refine ld_id ?_);(apply ld_hs hp;(focus repeat' constructor);exact rfl))|((with_reducible refine ldn_id ?_);(apply ldn_hs hp;(focus repeat' constructor);exact rfl;exact rfl))|((with_reducible refine al_id ?_);(refine al_cel hp ?_;clear hp;intro bb w hp))|((with_reducible refine gen_id ?_);(apply gen_len;exact rfl;exact rfl;assumption))|((with_reducible refine cl_id ?_);((refine cl_eq ((hcall hp.chg)) rfl rfl ?_;rintro e w ⟨rfl,hcc⟩;replace hp:=hp.call0 hcc;refine ⟨_,rfl,?_⟩))))<;>(conv=>whnf)))
  all_goals first
   |exact ps_val (v':= .bool false) rfl ⟨by rw [Bool.true_and,decide_eq_false (by omega)],hp.chg⟩
   |exact ps_val (v':= .bool true) rfl ⟨by rw [Bool.true_and,decide_eq_true (by omega)],hp.chg⟩
   |exact ps_val (v':= .bool (decide (j.live= -1))) rfl ⟨by rw [Bool.true_and];exact congrArg (fun b=>Ending.returned (.bool b)) (decide_eq_decide.2 (by omega)),hp.chg⟩
theorem rightJ_pay {j:Job} (h:rightJ j=true):rightP j.pay=true:=by
 unfold rightJ at h
 rw [Bool.and_eq_true] at h
 exact h.1
theorem rightP_few {p:Payload} (h:rightP p=true):fewP p=true:=by
 obtain ⟨_,h2,h3⟩:=rightP_at h
 unfold fewP
 rw [Bool.and_eq_true,List.all_eq_true]
 exact ⟨fun t ht=>decide_eq_true (by have:=h3 t ht;omega),decide_eq_true (by omega)⟩
theorem jown_any {B:Nat} {w0:World} {j:Job} (h:PayAt B w0 j.pay) (hBw:B≤w0.heap.size) (hf:fewP j.pay=true):Calls Tryz.prog 126 #[j.v] w0 fun e w'=>∃r:Payload,r.l.map tk=j.pay.l.map tk∧e= .returned (Job.v {j with pay:=r})∧Made (star (payRs r)) w0 w':=by
 have hp:=Hp.start (S:=N0) w0
 have hB:∀b,N0 b→B≤b:=fun _ hh=>hh.elim
 refine calls_x (args:= [_]) tabOk Tryz.func126 Tryz.ntmps126 Tryz.results126 rfl (Nat.le_of_ble_eq_true rfl) ?_
 ((conv=>whnf);repeat' ((first|((with_reducible refine ldn_id ?_);(apply ldn_hs hp;(focus repeat' constructor);exact rfl;exact rfl))|((with_reducible refine al_id ?_);(refine al_cel hp ?_;clear hp;intro bb w hp)))<;>(conv=>whnf)))
 refine cl_eq (copyp_any (h.keep hp.chg hB) (Nat.le_trans hBw hp.chg.size) hf) rfl rfl ?_
 rintro e w ⟨r,hr,rfl,hm⟩
 replace hp:=hp.add hm
 clear hm
 refine ⟨_,rfl,?_⟩
 ((conv=>whnf);repeat' ((first|((with_reducible refine cn_id ?_);(refine cn rfl ?_))|((with_reducible refine ldn_id ?_);(apply lda_hs hp;(focus repeat' constructor);exact rfl))|((with_reducible refine st_id ?_);first|(apply sta_hs hp;(focus repeat' constructor);exact rfl;exact rfl;clear hp;intro w hp;(try dsimp only [List.set] at hp))|(apply st_hs hp;(focus repeat' constructor);exact rfl;exact rfl;clear hp;intro w hp;(try dsimp only [List.set] at hp))))<;>(conv=>whnf)))
 exact ps_val (v':=Job.v {j with pay:=r}) rfl ⟨r,hr,rfl,hp.made1 (j:=0) rfl⟩
end Go.Proofs.YteabebmlclgakaaGreat
/- StaP: states as they are told; states of the call's own. No condition. -/
namespace Go.Proofs.YteabebmlclgakaaGreat
open Go.RowKit
set_option maxRecDepth 100000
set_option maxHeartbeats 2000000
structure BlkP where
 hash:Id
 parent:Id
 txs:List Id
deriving DecidableEq
def Blk.p (x:Blk):BlkP:=⟨x.hash,x.parent,x.tx.l⟩
structure StaP where
 cfg:Cfg
 ht:UInt32
 halt:Int
 next:UInt32
 win:List BlkP
 ses:List Sess
 blobs:List BlP
 jobs:List JobP
deriving DecidableEq
def Sta.p (x:Sta):StaP:=⟨x.cfg,x.ht,x.halt,x.next,x.win.l.map Blk.p,x.ses.l,x.blobs.l.map Blob.p,x.jobs.l.map Job.p⟩
abbrev btxR (b:Blk):Res:=rowR 44 32 Id.c b.tx
abbrev winRs (s:Sl Blk):List Res:=rowR 54 65 Blk.c s::s.l.map btxR
end Go.Proofs.YteabebmlclgakaaGreat
/- ChLoad: package chain: Load, of any window. No condition but that the window is not too long. -/
namespace Go.Proofs.YteabebmlclgakaaGreat
open Go.RowKit
set_option maxRecDepth 100000
set_option maxHeartbeats 4000000
def winAt (l:List Blk) (i:Nat):Bool:=match l[i]? with
 |some x=>rightB x && ((match i with
  |0=>true
  |k+1=>match l[k]? with
   |some y=>decide (x.parent=y.hash)
   |none=>true) && decide (x.hash∉(l.take i).map (·.hash)))
 |none=>true
def chS (d:Int) (ht:UInt32) (l:List Blk):Bool:=decide (1≤d∧d≤16∧(l.length:Int)≤d+1∧l.length≤ht.toNat) && (List.range l.length).all (winAt l)
structure ChW (w:World) (b:Nat) (C:Chn):Prop where
 cel:w.heap[b]? =some (.cells C.c.toArray 159)
 win:RAt w.heap.size w C.win
 dep:1≤C.depth∧C.depth≤16
 len:C.win.l.length≤17
 tx:∀c∈C.win.l,c.tx.l.length≤32
section
variable {w0 : World} {b : Nat} {C : Chn}
theorem ChW.keep0 {w:World} (h:ChW w0 b C) (hc:Chg N0 w0 w):ChW w b C:=
 ⟨hc.heap h.cel fun hh=>hh,⟨(h.win.row.keep hc fun _ hh=>hh.elim).more hc.size,fun c hm=>((h.win.tx c hm).keep hc fun _ hh=>hh.elim).more hc.size⟩,h.dep,h.len,h.tx⟩
theorem ChW.cell (h:ChW w0 b C) {i:Nat} {v:Value} (hi:C.c[i]? =some v):w0.cell? ⟨b,i,none⟩=some v:=cell_of_heap h.cel (by simpa using hi)
theorem cnoneW_any (h:ChW w0 b C):Calls Tryz.prog 115 #[ptr b] w0 fun e w'=>e= .returned (.bool false)∧Chg N0 w0 w':=by
 have hp:=Hp.start (S:=N0) w0
 have hd:=h.dep
 refine calls_x (args:= [_]) tabOk Tryz.func115 Tryz.ntmps115 Tryz.results115 rfl (Nat.le_of_ble_eq_true rfl) ?_
 have hd2:(C.depth==0)=false:=by simp;omega
 ((conv=>whnf);repeat' ((first|((with_reducible refine br_id ?_);(with_reducible refine br_f ?_))|((with_reducible refine ld_id ?_);((refine ld_of ((h.keep0 hp.chg).cell rfl) ?_))))<;>(conv=>whnf)))
 all_goals exact ps_val (v':= .bool (C.depth==0)) rfl ⟨by rw [hd2],hp.chg⟩
theorem catW_any (h:ChW w0 b C) {i:Nat} (hi:i < C.win.l.length):Calls Tryz.prog 116 #[ptr b,i64 i] w0 fun e w'=>∃m,e= .returned (.int .u32 m)∧Chg N0 w0 w':=by
 have hp:=Hp.start (S:=N0) w0
 have us:=Tryz.underlying26
 have hlt:=C.ht.toNat_lt
 have hln:=h.len
 obtain ⟨m1,hm1⟩:∃m,IntKind.u32.wrap ((C.win.l.length:Int) - 1 - i)=m:=⟨_,rfl⟩
 obtain ⟨m2,hm2⟩:∃m,IntKind.u32.wrap ((C.ht.toNat:Int) - m1)=m:=⟨_,rfl⟩
 refine calls_x (args:= [_,_]) tabOk Tryz.func116 Tryz.ntmps116 Tryz.results116 rfl (Nat.le_of_ble_eq_true rfl) ?_
 ((conv=>whnf);repeat' ((first|((with_reducible refine br_id ?_);first|(with_reducible refine br_t ?_)|(with_reducible refine br_f ?_)|(with_reducible refine br_not ?_)|((with_reducible refine br_dec (fun hx=>?_) (fun hx=>?_))<;>(try (exfalso;first|omega|contradiction)))|((with_reducible refine br_eq (fun hx=>?_) (fun hx=>?_))<;>(try (exfalso;first|omega|contradiction)))|((with_reducible refine br_ne (fun hx=>?_) (fun hx=>?_))<;>(try (exfalso;first|omega|contradiction)))|((with_reducible refine br_s (fun hx=>?_) (fun hx=>?_))<;>(try (exfalso;first|omega|contradiction))))|((with_reducible refine ar_id ?_);first|(refine ar_i64 (by omega) ?_)|(refine ar_u32 (by omega) ?_)|(refine ar_u64 (by omega) ?_)|(refine ar_u8 (by omega) ?_))|((with_reducible refine cn_id ?_);first|(refine cn rfl ?_)|(refine cn ‹_› ?_)|(refine cn (by omega) ?_)|(refine cn (Chg.refl _ _) ?_))|((with_reducible refine ld_id ?_);first|(apply ld_hs hp;(focus repeat' constructor);exact rfl)|(refine ld_of ‹_› ?_))|((with_reducible refine ldn_id ?_);first|(apply lda_hs hp;(focus repeat' constructor);exact rfl)|(apply ldn_hs hp;(focus repeat' constructor);exact rfl;exact rfl))|((with_reducible refine al_id ?_);(refine al_cel hp ?_;clear hp;intro bb w hp))|((with_reducible refine st_id ?_);first|(apply sta_hs hp;(focus repeat' constructor);exact rfl;exact rfl;clear hp;intro w hp;(try dsimp only [List.set] at hp))|(apply st_hs hp;(focus repeat' constructor);exact rfl;exact rfl;clear hp;intro w hp;(try dsimp only [List.set] at hp)))|((with_reducible refine gen_id ?_);first|(apply gen_build;exact rfl;exact rfl)|(apply gen_len;exact rfl;exact rfl;assumption)|(apply gen_min;exact rfl;exact rfl;exact rfl)|(apply gen_max;exact rfl;exact rfl;exact rfl)|(apply gen_ix;exact rfl;exact rfl;exact rfl;exact rfl;omega)|(apply gen_ixa;exact rfl;exact rfl;exact rfl;exact rfl;omega))|((with_reducible refine fk_id ?_);(refine fk_mk ?_ ?_))|((with_reducible refine rd_id ?_);first|(apply rd_len;exact rfl;exact rfl;assumption)|(apply rd_ix;exact rfl;exact rfl;exact rfl;exact rfl;omega)))<;>(conv=>whnf)))
 refine dr_autos [] 1000 tabOk (by kernel_rfl) (by decide+kernel) ?_
 replace hp:=hp.drew
 ((conv=>whnf);repeat' ((first|((with_reducible refine ar_id ?_);first|((with_reducible refine ar_is m1 hm1 ?_))|((with_reducible refine ar_is m2 hm2 ?_))|(refine ar_i64 (by omega) ?_))|((with_reducible refine ld_id ?_);((refine ld_of ((h.keep0 hp.chg).cell rfl) ?_)))|((with_reducible refine rd_id ?_);first|((refine rd_conv tabOk rfl rfl rfl rfl ?_))|(apply rd_len;exact rfl;exact rfl;assumption)))<;>(conv=>whnf)))
 all_goals exact ps_val (v':= .int .u32 m2) rfl ⟨_,rfl,hp.chg⟩
theorem ctipW_any (h:ChW w0 b C):Calls Tryz.prog 182 #[ptr b] w0 fun e w'=>∃t:Blk,(∀y,C.win.l.getLast? =some y→t.hash=y.hash)∧e= .returned (.tuple #[t.v, .bool (decide (C.win.l≠ []))])∧Chg N0 w0 w':=by
 have hp:=Hp.start (S:=N0) w0
 have us:=Tryz.underlying26
 have hB:∀b,N0 b→w0.heap.size≤b:=fun _ hh=>hh.elim
 by_cases h0:C.win.l= []
 ·have hl:C.win.l.length=0:=by rw [h0];rfl
  rw [show decide (C.win.l≠ [])=false by simp [h0]]
  refine calls_x (args:= [_]) tabOk Tryz.func182 Tryz.ntmps182 Tryz.results182 rfl (Nat.le_of_ble_eq_true rfl) ?_
  ((conv=>whnf);repeat' ((first|((with_reducible refine br_id ?_);first|(with_reducible refine br_f ?_)|((with_reducible refine br_eq (fun hx=>?_) (fun hx=>?_))<;>(try (exfalso;first|omega|contradiction))))|((with_reducible refine cn_id ?_);(refine cn rfl ?_))|((with_reducible refine ld_id ?_);((refine ld_of ((h.keep0 hp.chg).cell rfl) ?_)))|((with_reducible refine ldn_id ?_);(apply lda_hs hp;(focus repeat' constructor);exact rfl))|((with_reducible refine al_id ?_);(refine al_cel hp ?_;clear hp;intro bb w hp))|((with_reducible refine st_id ?_);(apply sta_hs hp;(focus repeat' constructor);exact rfl;exact rfl;clear hp;intro w hp;(try dsimp only [List.set] at hp)))|((with_reducible refine gen_id ?_);first|((refine gen_build (t:=54) (out:=(Blk.c ⟨Id.z,Id.z,Sl.nil⟩)) rfl (by kernel_rfl) ?_))|(apply gen_len;exact rfl;exact rfl;assumption))|((with_reducible refine cl_id ?_);((refine cl_eq ((cnoneW_any (h.keep0 hp.chg))) rfl rfl ?_;rintro e w ⟨rfl,hcc⟩;replace hp:=hp.call0 hcc;refine ⟨_,rfl,?_⟩))))<;>(conv=>whnf)))
  exact ps_of ⟨⟨Id.z,Id.z,Sl.nil⟩,fun y hy=>(by rw [h0] at hy;cases hy),rfl,hp.chg⟩
 ·have hl:0 < C.win.l.length:=List.length_pos_iff.2 h0
  rw [show decide (C.win.l≠ [])=true by simp [h0]]
  obtain ⟨n,hn⟩:∃n:Nat,C.win.l.length=n+1:=⟨_,(Nat.sub_add_cancel hl).symm⟩
  have hn2:((C.win.l.length:Int) - 1)=(n:Nat):=by omega
  have hn3:((C.win.l.length:Int) - 1).toNat=n:=by omega
  have hlt:n < C.win.l.length:=by omega
  have hmax:n≤100:=by have:=h.len;omega
  obtain ⟨b1,o1,y,hA,hb1,hrow,hxx⟩:=h.win.row.has hlt
  have hlast:C.win.l.getLast? =some y:=by rw [List.getLast?_eq_getElem?,hn];exact hxx
  have hym:=List.mem_of_getElem? hxx
  have hcp:=fun {w:World} (hc:Chg N0 w0 w)=>copy_any ((h.keep0 hc).win.tx y hym) (by have:=h.tx y hym;omega)
  refine calls_x (args:= [_]) tabOk Tryz.func182 Tryz.ntmps182 Tryz.results182 rfl (Nat.le_of_ble_eq_true rfl) ?_
  ((conv=>whnf);repeat' ((first|((with_reducible refine br_id ?_);first|(with_reducible refine br_f ?_)|((with_reducible refine br_eq (fun hx=>?_) (fun hx=>?_))<;>(try (exfalso;first|omega|contradiction))))|((with_reducible refine ld_id ?_);((refine ld_of ((h.keep0 hp.chg).cell rfl) ?_)))|((with_reducible refine al_id ?_);(refine al_cel hp ?_;clear hp;intro bb w hp))|((with_reducible refine gen_id ?_);(apply gen_len;exact rfl;exact rfl;assumption))|((with_reducible refine cl_id ?_);((refine cl_eq ((cnoneW_any (h.keep0 hp.chg))) rfl rfl ?_;rintro e w ⟨rfl,hcc⟩;replace hp:=hp.call0 hcc;refine ⟨_,rfl,?_⟩))))<;>(conv=>whnf)))
  refine dr_autos [] 1000 tabOk (by kernel_rfl) (by decide+kernel) ?_
  replace hp:=hp.drew
  ((conv=>whnf);repeat' ((first|((with_reducible refine ar_id ?_);(refine ar_i64 (by omega) ?_))|((with_reducible refine cn_id ?_);first|(refine cn rfl ?_)|(refine cn ‹_› ?_))|((with_reducible refine ld_id ?_);((refine ld_of ((h.keep0 hp.chg).cell rfl) ?_)))|((with_reducible refine ldn_id ?_);first|((refine ldn_rowx hp hB hb1 hrow n (by rw [hn3];rfl) hxx rfl ?_))|(apply lda_hs hp;(focus repeat' constructor);exact rfl))|((with_reducible refine st_id ?_);(apply sta_hs hp;(focus repeat' constructor);exact rfl;exact rfl;clear hp;intro w hp;(try dsimp only [List.set] at hp)))|((with_reducible refine cl_id ?_);((refine cl_eq (hcp hp.chg) rfl rfl ?_;rintro e w ⟨s,hs,rfl,hmd⟩;replace hp:=hp.call0 hmd.chg;replace hmd:=hmd.chg;refine ⟨_,rfl,?_⟩)))|((with_reducible refine rd_id ?_);first|((refine rd_ixs rfl rfl hA rfl rfl (by omega) ?_))|(apply rd_len;exact rfl;exact rfl;assumption)))<;>(conv=>whnf)))
  exact ps_val (v':= .tuple #[Blk.v {y with tx:=s}, .bool true]) rfl ⟨{y with tx:=s},fun z hz=>(by rw [hlast] at hz;cases hz;rfl),rfl,hp.chg⟩
theorem cfindW_any (h:ChW w0 b C) (x:Id):Calls Tryz.prog 183 #[ptr b,x.v] w0 fun e w'=>∃m,e= .returned (.tuple #[.int .u32 m, .bool (decide (x∈C.win.l.map (·.hash)))])∧Chg N0 w0 w':=by
 have hp:=Hp.start (S:=N0) w0
 have us:=Tryz.underlying26
 have hB:∀b,N0 b→w0.heap.size≤b:=fun _ hh=>hh.elim
 have hln:=h.len
 have hd:=h.dep
 refine calls_x (args:= [_,_]) tabOk Tryz.func183 Tryz.ntmps183 Tryz.results183 rfl (Nat.le_of_ble_eq_true rfl) ?_
 ((conv=>whnf);repeat' ((first|((with_reducible refine br_id ?_);(with_reducible refine br_f ?_))|((with_reducible refine ld_id ?_);((refine ld_of ((h.keep0 hp.chg).cell rfl) ?_)))|((with_reducible refine al_id ?_);(refine al_cel hp ?_;clear hp;intro bb w hp))|((with_reducible refine gen_id ?_);(apply gen_len;exact rfl;exact rfl;assumption))|((with_reducible refine cl_id ?_);((refine cl_eq ((cnoneW_any (h.keep0 hp.chg))) rfl rfl ?_;rintro e w ⟨rfl,hcc⟩;replace hp:=hp.call0 hcc;refine ⟨_,rfl,?_⟩))))<;>(conv=>whnf)))
 obtain ⟨b3,hb3⟩:∃x:Nat,x=bb:=⟨_,rfl⟩
 subst hb3
 refine lp_inv (α:=Nat) (fun i=> [(0,ptr b),(3,ptr b3),(13,C.win.v),(14,i64 C.win.l.length),(15,i64 i)]) (fun i w=>i≤C.win.l.length∧x∉(C.win.l.take i).map (·.hash)∧Hp N0 w0 w [cel b3 44 x.c.toArray]) (fun i=>C.win.l.length - i) 0 (by (repeat' (first|exact trivial|(refine ⟨rfl,?_⟩)))) ⟨by show 0≤_;omega,by simp,hp⟩ ?_
 clear hp
 rintro i e0 w ⟨hi,hno,hp⟩
 dsimp only at hi hno hp ⊢
 rcases Nat.lt_or_ge i C.win.l.length with hlt|hge
 ·obtain ⟨b1,o1,y,hA,hb1,hrow,hyy⟩:=h.win.row.has hlt
  by_cases he:y.hash=x
  ·have hq:EqIs Tryz.prog 44 y.hash.v x.v true:=by have:=eq_id y.hash x;rwa [decide_eq_true he] at this
   have hn1:(if BinOp.eql=BinOp.eql then true else !true)=true:=rfl
   ((conv=>whnf);repeat' ((first|((with_reducible refine br_id ?_);first|((with_reducible refine br_1 hn1 ?_))|((with_reducible refine br_dec (fun hx=>?_) (fun hx=>?_))<;>(try (exfalso;first|omega|contradiction))))|((with_reducible refine cn_id ?_);(refine cn rfl ?_))|((with_reducible refine ldn_id ?_);first|((refine ldn_rowx hp hB ‹_› ‹_› _ rfl ‹_› rfl ?_))|(apply lda_hs hp;(focus repeat' constructor);exact rfl)|(apply ldn_hs hp;(focus repeat' constructor);exact rfl;exact rfl))|((with_reducible refine al_id ?_);(refine al_cel hp ?_;clear hp;intro bb w hp))|((with_reducible refine st_id ?_);(apply sta_hs hp;(focus repeat' constructor);exact rfl;exact rfl;clear hp;intro w hp;(try dsimp only [List.set] at hp)))|((with_reducible refine gen_id ?_);first|((refine gen_ixs rfl rfl ‹_› rfl rfl (by omega) ?_))|((refine gen_eqa rfl rfl rfl hq (by kernel_rfl) (.inl rfl) ?_))))<;>(conv=>whnf)))
   refine cl_eq (catW_any (h.keep0 hp.chg) hlt) rfl rfl ?_
   rintro e w ⟨m,rfl,hcc⟩
   replace hp:=hp.call0 hcc
   refine ⟨_,rfl,?_⟩
   ((conv=>whnf);repeat' ((first|((with_reducible refine br_id ?_);first|(with_reducible refine br_t ?_)|(with_reducible refine br_f ?_)|(with_reducible refine br_not ?_)|((with_reducible refine br_dec (fun hx=>?_) (fun hx=>?_))<;>(try (exfalso;first|omega|contradiction)))|((with_reducible refine br_eq (fun hx=>?_) (fun hx=>?_))<;>(try (exfalso;first|omega|contradiction)))|((with_reducible refine br_ne (fun hx=>?_) (fun hx=>?_))<;>(try (exfalso;first|omega|contradiction)))|((with_reducible refine br_s (fun hx=>?_) (fun hx=>?_))<;>(try (exfalso;first|omega|contradiction))))|((with_reducible refine ar_id ?_);first|(refine ar_i64 (by omega) ?_)|(refine ar_u32 (by omega) ?_)|(refine ar_u64 (by omega) ?_)|(refine ar_u8 (by omega) ?_))|((with_reducible refine cn_id ?_);first|(refine cn rfl ?_)|(refine cn ‹_› ?_)|(refine cn (by omega) ?_)|(refine cn (Chg.refl _ _) ?_))|((with_reducible refine ld_id ?_);first|(apply ld_hs hp;(focus repeat' constructor);exact rfl)|(refine ld_of ‹_› ?_))|((with_reducible refine ldn_id ?_);first|(apply lda_hs hp;(focus repeat' constructor);exact rfl)|(apply ldn_hs hp;(focus repeat' constructor);exact rfl;exact rfl))|((with_reducible refine al_id ?_);(refine al_cel hp ?_;clear hp;intro bb w hp))|((with_reducible refine st_id ?_);first|(apply sta_hs hp;(focus repeat' constructor);exact rfl;exact rfl;clear hp;intro w hp;(try dsimp only [List.set] at hp))|(apply st_hs hp;(focus repeat' constructor);exact rfl;exact rfl;clear hp;intro w hp;(try dsimp only [List.set] at hp)))|((with_reducible refine gen_id ?_);first|(apply gen_build;exact rfl;exact rfl)|(apply gen_len;exact rfl;exact rfl;assumption)|(apply gen_min;exact rfl;exact rfl;exact rfl)|(apply gen_max;exact rfl;exact rfl;exact rfl)|(apply gen_ix;exact rfl;exact rfl;exact rfl;exact rfl;omega)|(apply gen_ixa;exact rfl;exact rfl;exact rfl;exact rfl;omega))|((with_reducible refine dr_id ?_);first|(refine dr_auto tabOk (by kernel_rfl) (by decide+kernel) ?_;(try replace hp:=hp.drew))|(refine dr_autog tabOk (by kernel_rfl) (by decide+kernel) ?_;(try replace hp:=hp.drew))|(refine dr_autot tabOk (by kernel_rfl) (by decide+kernel) ?_;(try replace hp:=hp.drew)))|((with_reducible refine fk_id ?_);(refine fk_mk ?_ ?_))|((with_reducible refine rd_id ?_);first|(apply rd_len;exact rfl;exact rfl;assumption)|(apply rd_ix;exact rfl;exact rfl;exact rfl;exact rfl;omega)))<;>(conv=>whnf)))
   exact ps_val (v':= .tuple #[.int .u32 m, .bool true]) rfl ⟨m,by rw [decide_eq_true];exact List.mem_map.2 ⟨y,List.mem_of_getElem? hyy,he⟩,hp.chg⟩
  ·have hq:EqIs Tryz.prog 44 y.hash.v x.v false:=by have:=eq_id y.hash x;rwa [decide_eq_false he] at this
   have hn0:(if BinOp.eql=BinOp.eql then false else !false)=false:=rfl
   ((conv=>whnf);repeat' ((first|((with_reducible refine br_id ?_);first|((with_reducible refine br_0 hn0 ?_))|((with_reducible refine br_dec (fun hx=>?_) (fun hx=>?_))<;>(try (exfalso;first|omega|contradiction))))|((with_reducible refine ar_id ?_);(refine ar_i64 (by omega) ?_))|((with_reducible refine cn_id ?_);(refine cn rfl ?_))|((with_reducible refine ldn_id ?_);first|((refine ldn_rowx hp hB ‹_› ‹_› _ rfl ‹_› rfl ?_))|(apply lda_hs hp;(focus repeat' constructor);exact rfl)|(apply ldn_hs hp;(focus repeat' constructor);exact rfl;exact rfl))|((with_reducible refine al_id ?_);(refine al_cel hp ?_;clear hp;intro bb w hp))|((with_reducible refine st_id ?_);(apply sta_hs hp;(focus repeat' constructor);exact rfl;exact rfl;clear hp;intro w hp;(try dsimp only [List.set] at hp)))|((with_reducible refine gen_id ?_);first|((refine gen_ixs rfl rfl ‹_› rfl rfl (by omega) ?_))|((refine gen_eqa rfl rfl rfl hq (by kernel_rfl) (.inl rfl) ?_))))<;>(conv=>whnf)))
   refine lp_next (i+1) (by show C.win.l.length - (i+1) < C.win.l.length - i;omega) (by (repeat' (first|exact trivial|(refine ⟨rfl,?_⟩)))) ⟨by show i+1≤_;omega,?_,hp.pick (rs':= [_]) [1] (by decide) rfl⟩
   rw [List.take_add_one,hyy,List.map_append,List.mem_append]
   rintro (hh|hh)
   ·exact hno hh
   ·simp at hh
    exact he hh.symm
 ·rw [List.take_of_length_le hge] at hno
  ((conv=>whnf);repeat' (((with_reducible refine br_id ?_);((with_reducible refine br_dec (fun hx=>?_) (fun hx=>?_))<;>(try (exfalso;first|omega|contradiction))))<;>(conv=>whnf)))
  exact ps_val (v':= .tuple #[.int .u32 0, .bool false]) rfl ⟨0,by rw [decide_eq_false hno],hp.chg⟩
def lastOk (x:Blk):Option Blk→Bool
 |some y=>decide (x.parent=y.hash)
 |none=>true
def nextOk (l:List Blk) (x:Blk):Bool:=rightB x && (lastOk x l.getLast? && decide (x.hash∉l.map (·.hash)))
theorem cmayW_any (h:ChW w0 b C) (h0:C.ht=0) {x:Blk} {D:Nat} (hx:SlAt D w0 Id.c 32 x.tx):Calls Tryz.prog 105 #[ptr b,x.v] w0 fun e w'=>∃E:Int,(decide (E=0)=nextOk C.win.l x)∧e= .returned (i64 E)∧Chg N0 w0 w':=by
 have hp:=Hp.start (S:=N0) w0
 have hD:∀b,N0 b→D≤b:=fun _ hh=>hh.elim
 have hri:=fun {w:World} (hc:Chg N0 w0 w)=>blkright_any (hx.keep hc hD)
 obtain ⟨R,hR⟩:∃R,rightB x=R:=⟨_,rfl⟩
 obtain ⟨q0,hq0⟩:∃q,decide (C.win.l≠ [])=q:=⟨_,rfl⟩
 obtain ⟨q1,hq1⟩:∃q,decide (x.hash∈C.win.l.map (·.hash))=q:=⟨_,rfl⟩
 have hht:(C.ht.toNat:Int)=0:=by rw [h0];rfl
 have htp:=fun {w:World} (hc:Chg N0 w0 w)=>ctipW_any (h.keep0 hc)
 have hfi:=fun {w:World} (hc:Chg N0 w0 w)=>cfindW_any (h.keep0 hc) x.hash
 have hN:nextOk C.win.l x=(R && (lastOk x C.win.l.getLast? && !q1)):=by
  unfold nextOk
  rw [hR,←hq1,decide_not]
 rw [hq0] at htp
 rw [hq1] at hfi
 rw [hR] at hri
 rw [hN]
 refine calls_x (args:= [_,_]) tabOk Tryz.func105 Tryz.ntmps105 Tryz.results105 rfl (Nat.le_of_ble_eq_true rfl) ?_
 ((conv=>whnf);repeat' ((first|((with_reducible refine br_id ?_);(with_reducible refine br_f ?_))|((with_reducible refine al_id ?_);(refine al_cel hp ?_;clear hp;intro bb w hp))|((with_reducible refine cl_id ?_);((refine cl_eq ((cnoneW_any (h.keep0 hp.chg))) rfl rfl ?_;rintro e w ⟨rfl,hcc⟩;replace hp:=hp.call0 hcc;refine ⟨_,rfl,?_⟩))))<;>(conv=>whnf)))
 refine cl_eq (htp hp.chg) rfl rfl ?_
 rintro e w ⟨t,hth,rfl,hcc⟩
 replace hp:=hp.call0 hcc
 refine ⟨_,rfl,?_⟩
 obtain ⟨q2,hq2⟩:∃q,decide (x.parent=t.hash)=q:=⟨_,rfl⟩
 have hch:=bchild_any (p:=t) (x:=x)
 rw [hq2] at hch
 have hM:lastOk x C.win.l.getLast? =(!q0|| q2):=by
  cases hl:C.win.l.getLast? with
  |none=>
   rw [←hq0,List.getLast?_eq_none_iff.1 hl]
   rfl
  |some y=>
   have:C.win.l≠ []:=by rintro e;rw [e] at hl;cases hl
   rw [←hq0,decide_eq_true this,←hq2,hth y hl]
   rfl
 rw [hM]
 clear hM hth hN
 ((conv=>whnf);repeat' ((first|((with_reducible refine cn_id ?_);(refine cn rfl ?_))|((with_reducible refine ldn_id ?_);(apply ldn_hs hp;(focus repeat' constructor);exact rfl;exact rfl))|((with_reducible refine al_id ?_);(refine al_cel hp ?_;clear hp;intro bb w hp))|((with_reducible refine st_id ?_);(apply sta_hs hp;(focus repeat' constructor);exact rfl;exact rfl;clear hp;intro w hp;(try dsimp only [List.set] at hp))))<;>(conv=>whnf)))
 refine cl_eq (hfi hp.chg) rfl rfl ?_
 rintro e w ⟨m,rfl,hcc⟩
 replace hp:=hp.call0 hcc
 refine ⟨_,rfl,?_⟩
 ((conv=>whnf);repeat' ((first|((with_reducible refine br_id ?_);first|(with_reducible refine br_t ?_)|(with_reducible refine br_f ?_)|(with_reducible refine br_not ?_)|((with_reducible refine br_eq (fun hx=>?_) (fun hx=>?_))<;>(try (exfalso;first|omega|contradiction)))|((with_reducible refine br_s (fun hx=>?_) (fun hx=>?_))<;>(try (exfalso;first|omega|contradiction))))|((with_reducible refine ld_id ?_);((refine ld_of ((h.keep0 hp.chg).cell rfl) ?_)))|((with_reducible refine ldn_id ?_);(apply lda_hs hp;(focus repeat' constructor);exact rfl))|((with_reducible refine cl_id ?_);first|((refine cl_eq ((hri hp.chg)) rfl rfl ?_;rintro e w ⟨rfl,hcc⟩;replace hp:=hp.call0 hcc;refine ⟨_,rfl,?_⟩))|((refine cl_eq ((hch _)) rfl rfl ?_;rintro e w ⟨rfl,hcc⟩;replace hp:=hp.call0 hcc;refine ⟨_,rfl,?_⟩))))<;>(conv=>whnf)))
 all_goals (try simp only [Bool.not_eq_true,Bool.not_eq_false'] at*)
 all_goals first
  |exact ps_val (v':=i64 0) rfl ⟨0,by simp_all,rfl,hp.chg⟩
  |exact ps_val (v':=i64 4) rfl ⟨4,by simp_all,rfl,hp.chg⟩
  |exact ps_val (v':=i64 19) rfl ⟨19,by simp_all,rfl,hp.chg⟩
  |exact ps_val (v':=i64 16) rfl ⟨16,by simp_all,rfl,hp.chg⟩
end
end Go.Proofs.YteabebmlclgakaaGreat
