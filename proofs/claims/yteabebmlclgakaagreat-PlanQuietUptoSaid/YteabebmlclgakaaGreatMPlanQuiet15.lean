/- MPlanQuiet15: Job2, Job3, StaP, Job4, Job5, Job6, Job7, SendP, StabP, PlanP, Sort0. -/
import Derived.Test.YteabebmlclgakaaGreatMPlanQuiet14
import Derived.Test.YteabebmlclgakaaGreatMPlanQuiet6
import Derived.Test.YteabebmlclgakaaGreatMPlanQuiet7
import Derived.Test.YteabebmlclgakaaGreatMPlanQuiet12
import Derived.Test.YteabebmlclgakaaGreatMPlanQuiet4
import Derived.Test.YteabebmlclgakaaGreatMPlanQuiet11
import Derived.Test.YteabebmlclgakaaGreatMPlanQuiet8
import Derived.Sort.LotA
import Derived.Sort.LotB
import Derived.Sort.LotD3
import Derived.Lib.BitFns
set_option linter.unusedSimpArgs false
set_option linter.unusedVariables false
/- Job2: the table of jobs: Add. No condition. -/
namespace Go.Proofs.YteabebmlclgakaaGreat
open Go.RowKit
set_option maxRecDepth 100000
set_option maxHeartbeats 2000000
theorem rd_pneq {P:Program} {ρ:Operand→Value} {o:Oper} {w:World} {g:Value→Prop} {t t2 e:TypeId} {x y:Operand} (hop:o.op= .binOp .neq t x y t2) {a:Option Addr} (hx:ρ x= .pointer a) (hy:ρ y= .pointer none) (ht:P.underlying t=some (.pointer e)) {q:Bool} (hq:(!a.isNone)=q) (hk:g (.bool q)):Rd P ρ o w g:=by
 subst hq
 refine ⟨_,fun w' _=>?_,hk⟩
 have hg:eqGuard .neq t x y (ρ x) (ρ y)=pure ():=by rw [hx];exact eqGuard_at_pointer ..
 have h':=(run_eql_of (P:=P) (w:=w') (t:=t) (eqIn_ptr 9999 ht a) (fun op=>by cases op<;>rfl)).2
 rw [hx,hy] at hg
 simp only [execOp,hop,hx,hy,hg,Sem.run_bind,Sem.run_pure,Result.andThen_ok,h']
structure PayOut (S:Nat→Prop) (B:Nat) (w:World) (p:Payload):Prop where
 row:SlOut S B w Tier.c 2 p
 tx:∀t∈p.l,SlOut S B w u8L 1 t.tx
theorem PayOut.keep {S:Nat→Prop} {B:Nat} {w w':World} {p:Payload} (h:PayOut S B w p) (hc:Chg S w w'):PayAt B w' p:=⟨h.row.keep hc,fun t ht=>(h.tx t ht).keep hc⟩
theorem ol_new {l:List (Key×EntB)} {k:Key} {x:EntB} (h:l.lookup k=none):mput (ol l) k (some x)=ol (l++ [(k,x)]):=by
 have hn:k∉(ol l).map (·.1):=by
  rw [ol_keys]
  intro hm
  obtain ⟨p,hp,hk⟩:=List.mem_map.1 hm
  rw [List.lookup_eq_none_iff] at h
  have:=h p hp
  rw [bne_iff_ne] at this
  exact this hk.symm
 unfold mput
 rw [if_neg hn]
 simp [ol]
def jaddE (l:List (Key×EntB)) (j:Job):Int:=if rightJ j=false then 1 else if (l.lookup j.key).isSome=true then 6 else 0
theorem JtI.add {ord:List Key} {l:List (Key×EntB)} (h:JtI ord l) {j:Job} {x:EntB} {r:Payload} (hl:l.lookup j.key=none) (hr:rightJ j=true) (hrp:r.l.map tk=j.pay.l.map tk) (hx:x.job={j with pay:=r}) (hi:x.ids.l=idsP j.pay) (hrr:rightJ {j with pay:=r}=true) (hii:idsP r=idsP j.pay):JtI (ord++ [j.key]) (l++ [(j.key,x)]):=by
 have hn:j.key∉l.map (·.1):=by
  intro hm
  obtain ⟨p,hp,hk⟩:=List.mem_map.1 hm
  rw [List.lookup_eq_none_iff] at hl
  have:=hl p hp
  rw [bne_iff_ne] at this
  exact this hk.symm
 refine ⟨by rw [h.ord];simp,?_,?_,?_,?_⟩
 ·rw [List.map_append,List.nodup_append]
  refine ⟨h.nd,by simp,fun a ha b hb=>?_⟩
  simp at hb
  subst hb
  exact fun e=>hn (e▸ha)
 all_goals
  intro p hp
  rcases List.mem_append.1 hp with hp|hp
 ·exact h.key p hp
 ·simp at hp;subst hp;rw [hx]
 ·exact h.right p hp
 ·simp at hp;subst hp;rw [hx];exact hrr
 ·exact h.ids p hp
 ·simp at hp;subst hp;rw [hx,hi,hii]
theorem ids_congr {p q:Payload} (h:p.l.map tk=q.l.map tk):idsP p=idsP q:=by
 have e:∀l:List Tier,(l.map fun t=>shaV t.tx.l)=(l.map tk).map fun x=>shaV x.2:=fun l=>by rw [List.map_map];rfl
 show (p.l.map fun t=>shaV t.tx.l)=q.l.map fun t=>shaV t.tx.l
 rw [e,e,h]
theorem tierOk_congr {l m:List Tier} (h:l.map tk=m.map tk) (i:Nat):tierOk l i=tierOk m i:=by
 have hg:∀j,(l[j]?).map tk=(m[j]?).map tk:=fun j=>by rw [←List.getElem?_map,←List.getElem?_map,h]
 have e:∀l:List Tier,tierOk l i=(match (l[i]?).map tk with
   |some t=>decide (1≤t.2.length∧t.2.length≤64) && (match i with
    |0=>true
    |k+1=>match (l[k]?).map tk with
     |some s=>decide (s.1.toNat < t.1.toNat)
     |none=>true)
   |none=>true):=fun l=>by
  unfold tierOk
  cases l[i]? with
  |none=>rfl
  |some t=>
   cases i with
   |zero=>rfl
   |succ k=>
    dsimp only [Option.map_some]
    cases l[k]? <;>rfl
 rw [e,e,hg]
 cases i with
 |zero=>rfl
 |succ k=>dsimp only;rw [hg]
theorem rightP_congr {p q:Payload} (h:p.l.map tk=q.l.map tk):rightP p=rightP q:=by
 have hl:p.l.length=q.l.length:=by have:=congrArg List.length h;simpa using this
 unfold rightP
 rw [hl]
 congr 1
 refine congrArg (fun f=>(List.range q.l.length).all f) (funext fun i=>tierOk_congr h i)
theorem rightJ_congr {j:Job} {r:Payload} (h:r.l.map tk=j.pay.l.map tk):rightJ {j with pay:=r}=rightJ j:=by
 have hl:r.l.length=j.pay.l.length:=by have:=congrArg List.length h;simpa using this
 unfold rightJ
 rw [rightP_congr (p:=r) (q:=j.pay) h]
 show (rightP j.pay && decide (_∧_∧j.live < (r.l.length:Int)∧_))=_
 rw [hl]
theorem Hp.fold3 {S:Nat→Prop} {w0 w:World} {a c:Res} {P rest:List Res} (h:Hp S w0 w (a::c::star P::rest)):Hp S w0 w (star (a::c::P)::rest):=by
 have h1:Hp S w0 w (P++(a::c::rest)):=(h.perm (((List.Perm.swap ..).cons _).trans (.swap ..))).unfold
 have h2:Hp S w0 w ((a::c::P)++rest):=h1.perm (List.perm_middle.trans (List.perm_middle.cons _))
 have h3:=h2.fold (a::c::P).length
 rwa [List.take_left,List.drop_left] at h3
theorem Hp.tail_swap {S:Nat→Prop} {w0 w:World} {a c:Res} {rest:List Res} (h:Hp S w0 w (a::c::rest)):Hp S w0 w (a::rest):=(h.perm (.swap ..)).tail
theorem jadd_any {B:Nat} {w0:World} {b m:Nat} {ord:Sl Key} {l:List (Key×EntB)} (h:(star (jtRs b m ord l)).ok w0) (hI:JtI ord.l l) (hmany:l.length≤100000) {j:Job} (hj:PayOut (star (jtRs b m ord l)).dom B w0 j.pay) (hBw:B≤w0.heap.size) (hlv: -9223372036854775808≤j.live∧j.live≤9223372036854775807):
  Calls Tryz.prog 120 #[ptr b,j.v] w0 fun e w'=>∃ord' l',e= .returned (i64 (jaddE l j))∧JtI ord'.l l'∧(jaddE l j≠0→l'=l)∧(jaddE l j=0→∃x:EntB,l'=l++ [(j.key,x)]∧x.job.p=j.p)∧Mut (star (jtRs b m ord l)) (star (jtRs b m ord' l')) w0 w':=by
 have hp:=Hp.open h
 have hT:=jtAt h
 have um:=Tryz.underlying179
 have up:=Tryz.underlying194
 have hJ:∀{w:World},Chg (star (jtRs b m ord l)).dom w0 w→Calls Tryz.prog 193 #[j.v] w fun e w'=>e= .returned (.bool (rightJ j))∧Chg N0 w w':=fun hc=>jright_any (hj.keep hc) hlv
 obtain ⟨q,hq⟩:∃q,rightJ j=q:=⟨_,rfl⟩
 rw [hq] at hJ
 cases q with
 |false=>
  have hE:jaddE l j=1:=if_pos hq
  rw [hE]
  refine calls_x (args:= [_,_]) tabOk Tryz.func120 Tryz.ntmps120 Tryz.results120 rfl (Nat.le_of_ble_eq_true rfl) ?_
  ((conv=>whnf);repeat' ((first|((with_reducible refine br_id ?_);first|(with_reducible refine br_f ?_)|(with_reducible refine br_not ?_))|((with_reducible refine ldn_id ?_);(apply lda_hs hp;(focus repeat' constructor);exact rfl))|((with_reducible refine al_id ?_);(refine al_cel hp ?_;clear hp;intro bb w hp))|((with_reducible refine cl_id ?_);first|((refine cl_eq ((jabsent_any (cell_of_heap (hp.cel_get (j:=1) rfl) rfl))) rfl rfl ?_;rintro e w ⟨rfl,hcc⟩;replace hp:=hp.call0 hcc;refine ⟨_,rfl,?_⟩))|((refine cl_eq ((hJ hp.chg)) rfl rfl ?_;rintro e w ⟨rfl,hcc⟩;replace hp:=hp.call0 hcc;refine ⟨_,rfl,?_⟩))))<;>(conv=>whnf)))
  exact ps_val (v':=i64 1) rfl ⟨ord,l,rfl,hI,fun _=>rfl,fun hh=>absurd hh (by decide),hp.tail.shut (.refl _)⟩
 |true=>
 have hne:¬rightJ j=false:=by rw [hq];simp
 cases hlk:l.lookup j.key with
 |some x=>
  have hE:jaddE l j=6:=by unfold jaddE;rw [if_neg hne,hlk];rfl
  rw [hE]
  have hv:((ol l).lookup j.key).getD none=some x:=by rw [(ol_lookup _ _).1,hlk]
  refine calls_x (args:= [_,_]) tabOk Tryz.func120 Tryz.ntmps120 Tryz.results120 rfl (Nat.le_of_ble_eq_true rfl) ?_
  ((conv=>whnf);repeat' ((first|((with_reducible refine br_id ?_);first|(with_reducible refine br_t ?_)|(with_reducible refine br_f ?_)|(with_reducible refine br_not ?_))|((with_reducible refine ld_id ?_);(apply ld_hs hp;(focus repeat' constructor);exact rfl))|((with_reducible refine ldn_id ?_);first|(apply lda_hs hp;(focus repeat' constructor);exact rfl)|(apply ldn_hs hp;(focus repeat' constructor);exact rfl;exact rfl))|((with_reducible refine al_id ?_);(refine al_cel hp ?_;clear hp;intro bb w hp))|((with_reducible refine dr_id ?_);(refine dr_auto tabOk (by kernel_rfl) (by decide+kernel) ?_;(try replace hp:=hp.drew)))|((with_reducible refine cl_id ?_);first|((refine cl_eq ((jabsent_any (cell_of_heap (hp.cel_get (j:=1) rfl) rfl))) rfl rfl ?_;rintro e w ⟨rfl,hcc⟩;replace hp:=hp.call0 hcc;refine ⟨_,rfl,?_⟩))|((refine cl_eq ((hJ hp.chg)) rfl rfl ?_;rintro e w ⟨rfl,hcc⟩;replace hp:=hp.call0 hcc;refine ⟨_,rfl,?_⟩)))|((with_reducible refine rd_id ?_);first|((refine rd_lookM rfl (mapR_ok.1 (hp.get (j:=2) rfl)) rfl keyK um (z:=none) rfl j.key rfl hv ?_))|((refine rd_pneq (q:=true) rfl rfl rfl up rfl ?_))))<;>(conv=>whnf)))
  exact ps_val (v':=i64 6) rfl ⟨ord,l,rfl,hI,fun _=>rfl,fun hh=>absurd hh (by decide),hp.tail.shut (.refl _)⟩
 |none=>
  have hE:jaddE l j=0:=by unfold jaddE;rw [if_neg hne,hlk];rfl
  rw [hE]
  have hv:((ol l).lookup j.key).getD none=none:=by rw [(ol_lookup _ _).1,hlk]
  have hf:=rightP_few (rightJ_pay hq)
  refine calls_x (args:= [_,_]) tabOk Tryz.func120 Tryz.ntmps120 Tryz.results120 rfl (Nat.le_of_ble_eq_true rfl) ?_
  ((conv=>whnf);repeat' ((first|((with_reducible refine br_id ?_);first|(with_reducible refine br_t ?_)|(with_reducible refine br_f ?_)|(with_reducible refine br_not ?_))|((with_reducible refine ld_id ?_);(apply ld_hs hp;(focus repeat' constructor);exact rfl))|((with_reducible refine ldn_id ?_);first|(apply lda_hs hp;(focus repeat' constructor);exact rfl)|(apply ldn_hs hp;(focus repeat' constructor);exact rfl;exact rfl))|((with_reducible refine al_id ?_);(refine al_cel hp ?_;clear hp;intro bb w hp))|((with_reducible refine dr_id ?_);first|(refine dr_auto tabOk (by kernel_rfl) (by decide+kernel) ?_;(try replace hp:=hp.drew))|(refine dr_autog tabOk (by kernel_rfl) (by decide+kernel) ?_;(try replace hp:=hp.drew)))|((with_reducible refine cl_id ?_);first|((refine cl_eq ((jabsent_any (cell_of_heap (hp.cel_get (j:=1) rfl) rfl))) rfl rfl ?_;rintro e w ⟨rfl,hcc⟩;replace hp:=hp.call0 hcc;refine ⟨_,rfl,?_⟩))|((refine cl_eq ((hJ hp.chg)) rfl rfl ?_;rintro e w ⟨rfl,hcc⟩;replace hp:=hp.call0 hcc;refine ⟨_,rfl,?_⟩)))|((with_reducible refine rd_id ?_);first|((refine rd_lookM rfl (mapR_ok.1 (hp.get (j:=2) rfl)) rfl keyK um (z:=none) rfl j.key rfl hv ?_))|((refine rd_pneq (q:=false) rfl rfl rfl up rfl ?_))))<;>(conv=>whnf)))
  refine cl_eq (jown_any (hj.keep hp.chg) (Nat.le_trans hBw hp.chg.size) hf) rfl rfl ?_
  rintro e w ⟨r,hr,rfl,hm⟩
  replace hp:=hp.add hm
  replace hm:=hm.chg
  refine ⟨_,rfl,?_⟩
  ((conv=>whnf);repeat' (((with_reducible refine cn_id ?_);(refine cn ‹_› ?_))<;>(conv=>whnf)))
  obtain ⟨b3,hb3⟩:∃y:Nat,y=bb:=⟨_,rfl⟩
  subst hb3
  refine cl_eq (ids_any (hj.keep hp.chg) (Nat.le_trans hBw hp.chg.size) hf) rfl rfl ?_
  rintro e w ⟨ids,hids,rfl,hm2⟩
  replace hp:=hp.add hm2
  replace hm2:=hm2.chg
  refine ⟨_,rfl,?_⟩
  ((conv=>whnf);repeat' ((first|((with_reducible refine cn_id ?_);(refine cn ‹_› ?_))|((with_reducible refine al_id ?_);(refine al_cel hp ?_;clear hp;intro bb w hp))|((with_reducible refine gen_id ?_);first|((refine gen_build (t:=198) (out:=(EntB.c ⟨0,{j with pay:=r},ids⟩)) rfl (by kernel_rfl) ?_))|((refine gen_put rfl hp 5 rfl rfl keyK um (j.key) rfl ((some (EntB.mk bb {j with pay:=r} ids))) rfl ?_);clear hp;intro w hp)))<;>(conv=>whnf)))
  obtain ⟨x,hx⟩:∃x:EntB,x=⟨bb,{j with pay:=r},ids⟩:=⟨_,rfl⟩
  have hxb:bb=x.b:=by rw [hx]
  have hxj:x.job={j with pay:=r}:=by rw [hx]
  have hxi:x.ids=ids:=by rw [hx]
  have hxc:(EntB.c ⟨0,{j with pay:=r},ids⟩)=EntB.c x:=by rw [hx]
  have hxr:payRs r=payRs x.job.pay:=by rw [hx]
  rw [←hx,ol_new hlk,hxc,hxr,hxb,←hxi] at hp
  have hol:ord.l.length≤100000:=by rw [hI.ord,List.length_map];exact hmany
  have hro:rightJ {j with pay:=r}=true:=by rw [rightJ_congr hr];exact hq
  have hJI:=hI.add hlk hq hr hxj (by rw [hxi];exact hids) hro (ids_congr hr)
  have hpx:x.job.p=j.p:=by rw [hxj];simp [Job.p,hr]
  clear hx hxb hxj hxc hxr hm hm2 hids hxi
  dsimp only [List.set] at hp
  ((conv=>whnf);repeat' ((first|((with_reducible refine cn_id ?_);(refine cn rfl ?_))|((with_reducible refine ld_id ?_);(apply ld_hs hp;(focus repeat' constructor);exact rfl))|((with_reducible refine ldn_id ?_);(apply ldn_hs hp;(focus repeat' constructor);exact rfl;exact rfl))|((with_reducible refine st_id ?_);(apply st_hs hp;(focus repeat' constructor);exact rfl;exact rfl;clear hp;intro w hp;(try dsimp only [List.set] at hp)))|((with_reducible refine gen_id ?_);first|((refine gen_bs rfl hp el_key Key.c [j.key] [j.key.v] rfl rfl rfl (fun _ hh=>by simp at hh;subst hh;rfl) (by omega) ?_);clear hp;intro br w hp)|((refine gen_app (s:=ord) rfl hp 7 rfl el_key rfl ⟨some ⟨br,0,none⟩,1, [j.key]⟩ rfl (hp.row (j:=0) rfl) (fun _ _=>rfl) key_one (by simp only [List.length_cons,List.length_nil];omega) (by simp only [maxLen,List.length_cons,List.length_nil];omega) ?_);clear hp;intro A2 c2 w hp;dsimp only [List.set] at hp))|((with_reducible refine dr_id ?_);(refine dr_auto tabOk (by kernel_rfl) (by decide+kernel) ?_;(try replace hp:=hp.drew))))<;>(conv=>whnf)))
  refine ps_val (v':=i64 0) rfl ⟨⟨A2,c2,ord.l++ [j.key]⟩,l++ [(j.key,x)],rfl,hJI,fun hh=>absurd rfl hh,fun _=>⟨x,rfl,hpx⟩,?_⟩
  have h1:=hp.tail.fold3.tail_swap
  have h2:(l++ [(j.key,x)]).map jentR=l.map jentR++ [jentR (j.key,x)]:=List.map_append
  refine (h1.perm ?_).shut (.refl _)
  unfold jtRs
  rw [h2]
  exact (List.perm_append_singleton _ (_::_::_::l.map jentR)).symm
end Go.Proofs.YteabebmlclgakaaGreat
/- Job3: the table of jobs: those of a kind. -/
namespace Go.Proofs.YteabebmlclgakaaGreat
open Go.RowKit
set_option maxRecDepth 100000
set_option maxHeartbeats 4000000
end Go.Proofs.YteabebmlclgakaaGreat
/- StaP: states as they are told; states of the call's own. No condition. -/
namespace Go.Proofs.YteabebmlclgakaaGreat
open Go.RowKit
set_option maxRecDepth 100000
set_option maxHeartbeats 2000000
structure BlkP where
 hash:Id
 parent:Id
 txs:List Id
deriving DecidableEq
def Blk.p (x:Blk):BlkP:=⟨x.hash,x.parent,x.tx.l⟩
structure StaP where
 cfg:Cfg
 ht:UInt32
 halt:Int
 next:UInt32
 win:List BlkP
 ses:List Sess
 blobs:List BlP
 jobs:List JobP
deriving DecidableEq
def Sta.p (x:Sta):StaP:=⟨x.cfg,x.ht,x.halt,x.next,x.win.l.map Blk.p,x.ses.l,x.blobs.l.map Blob.p,x.jobs.l.map Job.p⟩
abbrev btxR (b:Blk):Res:=rowR 44 32 Id.c b.tx
abbrev winRs (s:Sl Blk):List Res:=rowR 54 65 Blk.c s::s.l.map btxR
end Go.Proofs.YteabebmlclgakaaGreat
/- Job4: the table of jobs: the list of all; which tier is live. -/
namespace Go.Proofs.YteabebmlclgakaaGreat
open Go.RowKit
set_option maxRecDepth 100000
set_option maxHeartbeats 4000000
end Go.Proofs.YteabebmlclgakaaGreat
/- Job5: the table of jobs: which tier is live. -/
namespace Go.Proofs.YteabebmlclgakaaGreat
open Go.RowKit
set_option maxRecDepth 100000
set_option maxHeartbeats 4000000
end Go.Proofs.YteabebmlclgakaaGreat
/- Job6: the table of jobs: what an evicted transaction makes of it. -/
namespace Go.Proofs.YteabebmlclgakaaGreat
open Go.RowKit
set_option maxRecDepth 100000
set_option maxHeartbeats 4000000
end Go.Proofs.YteabebmlclgakaaGreat
/- Job7: the table of jobs: Evict. -/
namespace Go.Proofs.YteabebmlclgakaaGreat
open Go.RowKit
set_option maxRecDepth 100000
set_option maxHeartbeats 4000000
end Go.Proofs.YteabebmlclgakaaGreat
/- SendP: what is sent out of jobs, and what is live behind it. No program in sight. -/
namespace Go.Proofs.YteabebmlclgakaaGreat
open Go.RowKit
set_option maxRecDepth 100000
set_option maxHeartbeats 2000000
def dueP (j:JobP) (ht:UInt32) (step:Int):Option Nat:=
 if j.mined.toNat≠0∨j.tiers.length=0∨(tierAt j.height.toNat ht.toNat step j.tiers.length:Int)=j.live then none else some (tierAt j.height.toNat ht.toNat step j.tiers.length)
theorem dueN_p (j:Job) (ht:UInt32) (step:Int):dueN j ht step=dueP j.p ht step:=by
 unfold dueN dueP Job.p
 simp only [List.length_map]
def subO (ht:UInt32) (step:Int) (j:JobP):Option SubP:=match dueP j ht step with
 |none=>none
 |some n=>match j.tiers[n]? with
  |none=>none
  |some t=>some ⟨j.key,j.breach,ht,n,t.2⟩
def sentJ (ht:UInt32) (step:Int) (j:JobP):JobP:=match dueP j ht step with
 |none=>j
 |some n=>{j with live:=n}
theorem dueP_lt {j:JobP} {ht:UInt32} {step:Int} {n:Nat} (h:dueP j ht step=some n):n < j.tiers.length∧j.mined.toNat=0∧n=tierAt j.height.toNat ht.toNat step j.tiers.length:=by
 unfold dueP at h
 split at h
 ·cases h
 ·cases h
  exact ⟨tierAt_lt (by omega),by omega,rfl⟩
theorem dueP_sent (j:JobP) (ht:UInt32) (step:Int):dueP (sentJ ht step j) ht step=none:=by
 unfold sentJ
 cases h:dueP j ht step with
 |none=>exact h
 |some n=>
  obtain ⟨h1,h2,h3⟩:=dueP_lt h
  unfold dueP
  exact if_pos (.inr (.inr (by show (tierAt j.height.toNat ht.toNat step j.tiers.length:Int)=(n:Int);rw [h3])))
theorem sentJ_none {j:JobP} {ht:UInt32} {step:Int} (h:dueP j ht step=none):sentJ ht step j=j:=by unfold sentJ;rw [h]
theorem subO_some {j:JobP} {ht:UInt32} {step:Int} {n:Nat} {t:UInt32×List UInt8} (h:dueP j ht step=some n) (ht':j.tiers[n]? =some t):subO ht step j=some ⟨j.key,j.breach,ht,n,t.2⟩:=by unfold subO;rw [h];dsimp only;rw [ht']
theorem duePost_no {j:Job} {ht:UInt32} {step:Int} {w0:World} {e:Ending} {w':World} (h:DuePost j ht step w0 e w') (hd:dueP j.p ht step=none):e= .returned (.tuple #[Sub.z.v, .bool false])∧Chg N0 w0 w':=by
 rcases h with ⟨_,h1,h2⟩|⟨n,t,s,h1,_⟩
 ·exact ⟨h1,h2⟩
 ·rw [dueN_p,hd] at h1
  cases h1
theorem duePost_yes {j:Job} {ht:UInt32} {step:Int} {w0:World} {e:Ending} {w':World} (h:DuePost j ht step w0 e w') {n:Nat} (hd:dueP j.p ht step=some n):∃z:Sub,subO ht step j.p=some z.p∧z.tier=n∧e= .returned (.tuple #[z.v, .bool true])∧Made (stxR z) w0 w':=by
 rcases h with ⟨h1,_⟩|⟨m,t,s,h1,htt,hs,h2,h3⟩
 ·rw [dueN_p,hd] at h1
  cases h1
 ·rw [dueN_p,hd] at h1
  cases h1
  refine ⟨⟨j.key,j.breach,ht,n,s⟩,?_,rfl,h2,h3⟩
  rw [subO_some (t:=tk t) hd (by show (j.pay.l.map tk)[n]? =_;rw [List.getElem?_map,htt];rfl)]
  show some (SubP.mk _ _ _ _ t.tx.l)=some (SubP.mk _ _ _ _ s.l)
  rw [hs]
  rfl
end Go.Proofs.YteabebmlclgakaaGreat
/- StabP: Go's stable sort without program: lists put together by insertion, merged by turning; what comes is sorted, and a permutation. No condition. -/
namespace Go.Proofs.YteabebmlclgakaaGreat
set_option maxHeartbeats 2000000
section
variable {α : Type}
theorem set_mid (A:List α) (x y:α) (C:List α):(A++x::C).set A.length y=A++y::C:=by
 rw [List.set_append_right _ _ (Nat.le_refl _),Nat.sub_self]
 rfl
theorem get_mid (A:List α) (x:α) (C:List α):(A++x::C)[A.length]? =some x:=by
 rw [List.getElem?_append_right (Nat.le_refl _),Nat.sub_self]
 rfl
theorem swap_mid (A B C:List α) (x y:α) {i j:Nat} (hi:i=A.length) (hj:j=A.length+1+B.length):((A++x::(B++y::C)).set i y).set j x=A++y::(B++x::C):=by
 subst hi
 rw [set_mid,show A++y::(B++y::C)=(A++y::B)++y::C by simp,show j=(A++y::B).length by simp;omega,set_mid]
 simp
theorem swap_rev (A B C:List α) (x y:α) {i j:Nat} (hi:i=A.length+1+B.length) (hj:j=A.length):((A++x::(B++y::C)).set i x).set j y=A++y::(B++x::C):=by
 subst hj
 rw [show A++x::(B++y::C)=(A++x::B)++y::C by simp,show i=(A++x::B).length by simp;omega,set_mid,show (A++x::B)++x::C=A++x::(B++x::C) by simp,set_mid]
theorem cut_at {l:List α} {n:Nat} (h:n≤l.length):∃A B,l=A++B∧A.length=n:=⟨l.take n,l.drop n,(List.take_append_drop n l).symm,by rw [List.length_take];omega⟩
theorem cut_last {l:List α} (h:0 < l.length):∃A x,l=A++ [x]:=⟨l.dropLast,l.getLast (List.ne_nil_of_length_pos h),(List.dropLast_concat_getLast _).symm⟩
theorem cut_head {l:List α} (h:0 < l.length):∃x A,l=x::A:=by
 cases l with
 |nil=>cases h
 |cons x A=>exact ⟨x,A,rfl⟩
variable {cf : α → α → Int}
def leC (cf:α→α→Int) (x y:α):Prop:=¬cf y x < 0
structure CmpOk (cf:α→α→Int):Prop where
 asym:∀x y,cf x y < 0→¬cf y x < 0
 trans:∀x y z,leC cf x y→leC cf y z→leC cf x z
abbrev Srt (cf:α→α→Int) (l:List α):Prop:=l.Pairwise (leC cf)
theorem srt_last {A:List α} {x:α} (h:Srt cf (A++ [x])) (hc:CmpOk cf) {y:α} (hy:leC cf x y):∀z∈A++ [x],leC cf z y:=fun z hz=>by
 rcases List.mem_append.1 hz with h1|h1
 ·exact hc.trans _ _ _ ((List.pairwise_append.1 h).2.2 z h1 x (List.mem_singleton_self x)) hy
 ·obtain rfl:=List.mem_singleton.1 h1
  exact hy
theorem srt_head {A:List α} {x:α} (h:Srt cf (x::A)) (hc:CmpOk cf) {y:α} (hy:leC cf y x):∀z∈x::A,leC cf y z:=fun z hz=>by
 rcases List.mem_cons.1 hz with rfl|h1
 ·exact hy
 ·exact hc.trans _ _ _ hy ((List.pairwise_cons.1 h).1 z h1)
theorem srt_meet (hc:CmpOk cf) {X Y:List α} (hX:Srt cf X) (hY:Srt cf Y) (h:∀x y,X.getLast? =some x→Y.head? =some y→leC cf x y):∀x∈X,∀y∈Y,leC cf x y:=by
 intro x hx y hy
 obtain ⟨A,a,rfl⟩:=cut_last (List.length_pos_of_mem hx)
 obtain ⟨b,B,rfl⟩:=cut_head (List.length_pos_of_mem hy)
 have h1:=h a b (by simp) rfl
 have h2:=srt_head hY hc h1 y hy
 exact srt_last hX hc h2 x hx
theorem srt_join (hc:CmpOk cf) {X Y:List α} (hX:Srt cf X) (hY:Srt cf Y) (h:∀x y,X.getLast? =some x→Y.head? =some y→leC cf x y):Srt cf (X++Y):=List.pairwise_append.2 ⟨hX,hY,srt_meet hc hX hY h⟩
theorem srt_put (hc:CmpOk cf) {X Y:List α} {x:α} (hXY:Srt cf (X++Y)) (h1:∀a,X.getLast? =some a→leC cf a x) (h2:∀b,Y.head? =some b→leC cf x b):Srt cf (X++x::Y):=by
 obtain ⟨hX,hY,hxy⟩:=List.pairwise_append.1 hXY
 have h3:Srt cf (x::Y):=srt_join (X:= [x]) hc (List.pairwise_singleton _ _) hY fun a b ha hb=>by
  obtain rfl:x=a:=by simpa using ha
  exact h2 b hb
 exact srt_join hc hX h3 fun a b ha hb=>by
  obtain rfl:x=b:=by simpa using hb
  exact h1 a ha
theorem srt_sym (hc:CmpOk cf) {X1 X2 Y1 Y2 M1 M2:List α} (hX:Srt cf (X1++X2)) (hY:Srt cf (Y1++Y2))
  (h1:∀x y,X1.getLast? =some x→Y2.head? =some y→leC cf x y) (h2:∀x y,Y1.getLast? =some y→X2.head? =some x→leC cf y x)
  (p1:M1.Perm (X1++Y1)) (p2:M2.Perm (X2++Y2)) (s1:Srt cf M1) (s2:Srt cf M2):Srt cf (M1++M2)∧(M1++M2).Perm ((X1++X2)++(Y1++Y2)):=by
 obtain ⟨a1,a2,a3⟩:=List.pairwise_append.1 hX
 obtain ⟨b1,b2,b3⟩:=List.pairwise_append.1 hY
 refine ⟨List.pairwise_append.2 ⟨s1,s2,fun x hx y hy=>?_⟩,?_⟩
 ·have hx:=p1.mem_iff.1 hx
  have hy:=p2.mem_iff.1 hy
  rcases List.mem_append.1 hx with hx|hx<;>rcases List.mem_append.1 hy with hy|hy
  ·exact a3 x hx y hy
  ·exact srt_meet hc a1 b2 h1 x hx y hy
  ·exact srt_meet hc b1 a2 (fun y x hy hx=>h2 x y hy hx) x hx y hy
  ·exact b3 x hx y hy
 ·refine (p1.append p2).trans ?_
  rw [List.append_assoc,List.append_assoc]
  refine List.Perm.append_left X1 ?_
  rw [←List.append_assoc,←List.append_assoc]
  exact List.Perm.append_right Y2 List.perm_append_comm
inductive Chk (cf:α→α→Int) (n:Nat):List α→Prop
 |last (l:List α):l.length≤n→Srt cf l→Chk cf n l
 |cons (x l:List α):x.length=n→Srt cf x→Chk cf n l→Chk cf n (x++l)
theorem Chk.nil {n:Nat}:Chk cf n []:= .last [] (Nat.zero_le _) .nil
theorem Chk.big {n:Nat} {R:List α} (h:Chk cf n R) (hl:n≤R.length):∃x R',R=x++R'∧x.length=n∧Srt cf x∧Chk cf n R':=by
 cases h with
 |last _ h1 h2=>exact ⟨R, [],(List.append_nil R).symm,by omega,h2, .nil⟩
 |cons x l h1 h2 h3=>exact ⟨x,l,rfl,h1,h2,h3⟩
theorem Chk.small {n:Nat} {R:List α} (h:Chk cf n R) (hl:R.length≤n):Srt cf R:=by
 cases h with
 |last _ h1 h2=>exact h2
 |cons x l h1 h2 h3=>
  rw [List.length_append] at hl
  rw [List.eq_nil_of_length_eq_zero (show l.length=0 by omega),List.append_nil]
  exact h2
def Ful (cf:α→α→Int) (n:Nat) (D:List α):Prop:=∀R,Chk cf n R→Chk cf n (D++R)
theorem Ful.nil {n:Nat}:Ful cf n []:=fun _ h=>h
theorem Ful.snoc {n:Nat} {D x:List α} (h:Ful cf n D) (hl:x.length=n) (hs:Srt cf x):Ful cf n (D++x):=fun R hR=>by
 rw [List.append_assoc]
 exact h _ (.cons x R hl hs hR)
end
end Go.Proofs.YteabebmlclgakaaGreat
/- PlanP: what a plan is, by jobs and by heights: both are one. No program in sight. -/
namespace Go.Proofs.YteabebmlclgakaaGreat
open Go.RowKit
set_option maxRecDepth 100000
set_option maxHeartbeats 2000000
structure StpP where
 sub:SubP
 place:Int
 fee:UInt32
 deriving DecidableEq
abbrev Stp.p (x:Stp):StpP:=⟨x.sub.p,x.place,x.fee⟩
theorem next_gt {b h many m:Nat} {step:Int} (hn:nextT b h step many=some m):h < m∧m≤4294967295∧tierAt b m step many=tierAt b h step many+1∧tierAt b h step many+1 < many:=by
 unfold nextT at hn
 split at hn
 ·cases hn
 ·rename_i h1
  split at hn
  ·cases hn
  ·rename_i h2
   obtain rfl:=Option.some.inj hn
   obtain ⟨d,hd⟩:∃d:Nat,(max step 1).toNat=d:=⟨_,rfl⟩
   have hd1:1≤d:=by omega
   rw [hd] at h2 ⊢
   obtain ⟨n,hT⟩:∃n,tierAt b h step many=n:=⟨_,rfl⟩
   rw [hT] at h1 h2 ⊢
   have hM:d*(n+1)=d*n+d:=Nat.mul_succ d n
   have hgt:h < b+d*(n+1):=by
    unfold tierAt at hT
    rw [hd] at hT
    split at hT
    ·have:d*(n+1)≥d:=Nat.le_mul_of_pos_right d (by omega)
     omega
    ·have hq:(h - b) / d=n:=by omega
     have:=Nat.lt_mul_div_succ (h - b) (show 0 < d by omega)
     rw [hq] at this
     omega
   refine ⟨hgt,by omega,?_,by omega⟩
   unfold tierAt
   rw [hd,if_neg (by have:d*(n+1)≥d:=Nat.le_mul_of_pos_right d (by omega);omega),show b+d*(n+1) - b=(n+1)*d by rw [Nat.mul_comm];omega,Nat.mul_div_cancel _ (by omega)]
   omega
theorem tier_same {b h h' many:Nat} {step:Int} (hh:h≤h') (hq:many≤tierAt b h step many+1∨h' < b+(max step 1).toNat*(tierAt b h step many+1)):tierAt b h' step many=tierAt b h step many:=by
 obtain ⟨n,hT⟩:∃n,tierAt b h step many=n:=⟨_,rfl⟩
 rw [hT] at hq ⊢
 obtain ⟨d,hd⟩:∃d:Nat,(max step 1).toNat=d:=⟨_,rfl⟩
 have hd1:1≤d:=by omega
 rw [hd] at hq
 unfold tierAt at hT ⊢
 rw [hd] at hT ⊢
 by_cases c1:h'≤b∨many < 1
 ·rw [if_pos c1]
  rw [if_pos (by omega)] at hT
  exact hT
 ·rw [if_neg c1]
  by_cases c2:h≤b
  ·rw [if_pos (.inl c2)] at hT
   subst hT
   rcases hq with hq|hq
   ·generalize (h' - b) / d=q
    omega
   ·rw [Nat.div_eq_of_lt (by omega)]
    omega
  ·rw [if_neg (by omega)] at hT
   have hmono:(h - b) / d≤(h' - b) / d:=Nat.div_le_div_right (by omega)
   rcases hq with hq|hq
   ·omega
   ·by_cases c3:many≤n+1
    ·omega
    ·have e1:(h - b) / d=n:=by omega
     have e2:(h' - b) / d < n+1:=(Nat.div_lt_iff_lt_mul (by omega)).2 (by rw [Nat.mul_comm];omega)
     omega
theorem next_none {b h h' many:Nat} {step:Int} (hn:nextT b h step many=none) (hh:h≤h') (ht:h'≤4294967295):tierAt b h' step many=tierAt b h step many:=by
 unfold nextT at hn
 by_cases c0:many < 1
 ·unfold tierAt
  rw [if_pos (.inr c0),if_pos (.inr c0)]
 refine tier_same hh ?_
 split at hn
 ·rename_i h1
  rcases h1 with h1|h1|h1
  ·omega
  ·exact .inl h1
  ·right
   have:(max step 1).toNat*(tierAt b h step many+1)≥(max step 1).toNat:=Nat.le_mul_of_pos_right _ (by omega)
   omega
 ·split at hn
  ·right;omega
  ·cases hn
theorem next_some {b h h' many m:Nat} {step:Int} (hn:nextT b h step many=some m) (hh:h≤h') (ht:h' < m):tierAt b h' step many=tierAt b h step many:=by
 refine tier_same hh ?_
 unfold nextT at hn
 split at hn
 ·cases hn
 ·split at hn
  ·cases hn
  ·obtain rfl:=Option.some.inj hn
   exact .inr ht
theorem dueP_same {j:JobP} {h h':UInt32} {step:Int} (hh:tierAt j.height.toNat h'.toNat step j.tiers.length=tierAt j.height.toNat h.toNat step j.tiers.length):dueP j h' step=dueP j h step:=by unfold dueP;rw [hh]
def stpO (place far:Int) (h:UInt32) (j:JobP):Option StpP:=match dueP j h far with
 |none=>none
 |some n=>match j.tiers[n]? with
  |none=>none
  |some t=>some ⟨⟨j.key,j.breach,h,n,t.2⟩,place,t.1⟩
theorem stpO_none {place far:Int} {h:UInt32} {j:JobP} (hd:dueP j h far=none):stpO place far h j=none:=by unfold stpO;rw [hd]
theorem stpO_at {place far:Int} {h:UInt32} {j:JobP} {s:StpP} (hs:stpO place far h j=some s):s.place=place∧s.sub.height=h∧s.sub.key=j.key∧0≤s.sub.tier∧∃t,j.tiers[s.sub.tier.toNat]? =some t∧s.fee=t.1:=by
 unfold stpO at hs
 split at hs
 ·cases hs
 ·split at hs
  ·cases hs
  ·rename_i t ht
   cases hs
   exact ⟨rfl,rfl,rfl,Int.natCast_nonneg _,t,ht,rfl⟩
def runJ (place far:Int):Nat→Nat→JobP→List StpP
 |0,_,_=> []
 |k+1,h,j=>(stpO place far (UInt32.ofNat h) j).toList++runJ place far k (h+1) (sentJ (UInt32.ofNat h) far j)
theorem runJ_quiet {place far:Int} {j:JobP}:∀(k k' h:Nat),(∀h',h≤h'→h' < h+k→dueP j (UInt32.ofNat h') far=none)→runJ place far (k+k') h j=runJ place far k' (h+k) j
 |0,k',h,_=>by rw [Nat.zero_add,Nat.add_zero]
 |k+1,k',h,hq=>by
  have h0:=hq h (Nat.le_refl _) (by omega)
  rw [show k+1+k'=(k+k')+1 by omega]
  show (stpO place far (UInt32.ofNat h) j).toList++runJ place far (k+k') (h+1) (sentJ (UInt32.ofNat h) far j)=_
  rw [stpO_none h0,sentJ_none h0,runJ_quiet k k' (h+1) fun h' h1 h2=>hq h' (by omega) (by omega)]
  show []++_=_
  rw [List.nil_append,show h+1+k=h+(k+1) by omega]
def stepL (place far:Int):Nat→JobP→UInt32→List StpP
 |0,_,_=> []
 |f+1,j,h=>(stpO place far h j).toList++
  (match nextT j.height.toNat h.toNat far j.tiers.length with
   |none=> []
   |some m=>stepL place far f (sentJ h far j) (UInt32.ofNat m))
def stepsP (place far:Int) (j:JobP) (ht:UInt32):List StpP:=if ht.toNat=4294967295 then [] else stepL place far 4294967296 j (ht+1)
theorem sentJ_len (h:UInt32) (far:Int) (j:JobP):(sentJ h far j).tiers=j.tiers∧(sentJ h far j).height=j.height∧(sentJ h far j).key=j.key:=by
 unfold sentJ
 split<;>exact ⟨rfl,rfl,rfl⟩
theorem stepL_run {place far:Int}:∀(f:Nat) (j:JobP) (h:UInt32),4294967296≤f+h.toNat→stepL place far f j h=runJ place far (4294967296 - h.toNat) h.toNat j
 |0,j,h,hf=>by have:=h.toNat_lt;omega
 |f+1,j,h,hf=>by
  have hlt:=h.toNat_lt
  obtain ⟨q1,q2,_⟩:=sentJ_len h far j
  have hR:runJ place far (4294967296 - h.toNat) h.toNat j=(stpO place far h j).toList++runJ place far (4294967295 - h.toNat) (h.toNat+1) (sentJ h far j):=by
   rw [show 4294967296 - h.toNat=(4294967295 - h.toNat)+1 by omega]
   show (stpO place far (UInt32.ofNat h.toNat) j).toList++runJ place far _ (h.toNat+1) (sentJ (UInt32.ofNat h.toNat) far j)=_
   rw [UInt32.ofNat_toNat]
  rw [hR]
  show (stpO place far h j).toList++_=_
  congr 1
  have hq:∀h',h'≤4294967295→tierAt j.height.toNat h' far j.tiers.length=tierAt j.height.toNat h.toNat far j.tiers.length→dueP (sentJ h far j) (UInt32.ofNat h') far=none:=fun h' h1 h2=>by
   rw [dueP_same (h:=h) (by rw [q1,q2,UInt32.toNat_ofNat',Nat.mod_eq_of_lt (by omega)];exact h2),dueP_sent]
  cases hn:nextT j.height.toNat h.toNat far j.tiers.length with
  |none=>
   have:=runJ_quiet (place:=place) (far:=far) (j:=sentJ h far j) (4294967295 - h.toNat) 0 (h.toNat+1) fun h' h1 h2=>hq h' (by omega) (next_none hn (by omega) (by omega))
   rw [Nat.add_zero] at this
   rw [this]
   rfl
  |some m=>
   obtain ⟨g1,g2,g3,g4⟩:=next_gt hn
   dsimp only
   have hm:(UInt32.ofNat m).toNat=m:=by rw [UInt32.toNat_ofNat',Nat.mod_eq_of_lt (by omega)]
   rw [stepL_run f _ _ (by rw [hm];omega),hm]
   have:=runJ_quiet (place:=place) (far:=far) (j:=sentJ h far j) (m - h.toNat - 1) (4294967296 - m) (h.toNat+1) fun h' h1 h2=>hq h' (by omega) (next_some hn (by omega) (by omega))
   rw [show m - h.toNat - 1+(4294967296 - m)=4294967295 - h.toNat by omega,show h.toNat+1+(m - h.toNat - 1)=m by omega] at this
   exact this.symm
theorem stepsP_run (place far:Int) (j:JobP) (ht:UInt32):stepsP place far j ht=runJ place far (4294967295 - ht.toNat) (ht.toNat+1) j:=by
 have hlt:=ht.toNat_lt
 unfold stepsP
 by_cases h:ht.toNat=4294967295
 ·rw [if_pos h,h]
  rfl
 ·have h1:(ht+1).toNat=ht.toNat+1:=by
   rw [UInt32.toNat_add]
   have:(1:UInt32).toNat=1:=rfl
   rw [this]
   omega
  rw [if_neg h,stepL_run _ _ _ (by omega),h1,show 4294967296 - (ht.toNat+1)=4294967295 - ht.toNat by omega]
abbrev PlJ:=Int×JobP
def placed (l:List JobP):List PlJ:=l.zipIdx.map fun p=>((p.2:Int),p.1)
def advJ (far:Int) (h:Nat) (l:List PlJ):List PlJ:=l.map fun p=>(p.1,sentJ (UInt32.ofNat h) far p.2)
def outJ (far:Int) (h:Nat) (l:List PlJ):List StpP:=l.filterMap fun p=>stpO p.1 far (UInt32.ofNat h) p.2
def runA (far:Int):Nat→Nat→List PlJ→List StpP
 |0,_,_=> []
 |k+1,h,l=>outJ far h l++runA far k (h+1) (advJ far h l)
def endA (far:Int):Nat→Nat→List PlJ→List PlJ
 |0,_,l=>l
 |k+1,h,l=>endA far k (h+1) (advJ far h l)
theorem runA_add (far:Int):∀(a b h:Nat) (l:List PlJ),runA far (a+b) h l=runA far a h l++runA far b (h+a) (endA far a h l)
 |0,b,h,l=>by rw [Nat.zero_add];rfl
 |a+1,b,h,l=>by
  rw [show a+1+b=(a+b)+1 by omega]
  show outJ far h l++runA far (a+b) (h+1) (advJ far h l)=(outJ far h l++runA far a (h+1) (advJ far h l))++runA far b (h+(a+1)) (endA far a (h+1) (advJ far h l))
  rw [runA_add far a b,List.append_assoc,show h+1+a=h+(a+1) by omega]
theorem flat_pair {α β:Type} (l:List α) (f g:α→List β):(l.flatMap fun x=>f x++g x).Perm (l.flatMap f++l.flatMap g):=by
 induction l with
 |nil=>exact .refl _
 |cons x l ih=>
  simp only [List.flatMap_cons]
  rw [List.append_assoc,List.append_assoc]
  refine List.Perm.append_left (f x) ?_
  refine (List.Perm.append_left (g x) ih).trans ?_
  rw [←List.append_assoc,←List.append_assoc]
  exact List.Perm.append_right _ List.perm_append_comm
theorem flat_opt {α β:Type} (l:List α) (f:α→Option β):(l.flatMap fun x=>(f x).toList)=l.filterMap f:=by
 induction l with
 |nil=>rfl
 |cons x l ih=>
  rw [List.flatMap_cons,ih,List.filterMap_cons]
  cases f x<;>rfl
theorem runA_jobs (far:Int):∀(k h:Nat) (l:List PlJ),(l.flatMap fun p=>runJ p.1 far k h p.2).Perm (runA far k h l)
 |0,h,l=>by
  show (l.flatMap fun _=> []).Perm []
  rw [show (l.flatMap fun _=>([]:List StpP))= [] by simp]
 |k+1,h,l=>by
  refine (flat_pair l (fun p=>(stpO p.1 far (UInt32.ofNat h) p.2).toList) (fun p=>runJ p.1 far k (h+1) (sentJ (UInt32.ofNat h) far p.2))).trans ?_
  show ((l.flatMap fun p=>(stpO p.1 far (UInt32.ofNat h) p.2).toList)++l.flatMap fun p=>runJ p.1 far k (h+1) (sentJ (UInt32.ofNat h) far p.2)).Perm (outJ far h l++runA far k (h+1) (advJ far h l))
  rw [flat_opt]
  refine List.Perm.append_left _ ?_
  have:=runA_jobs far k (h+1) (advJ far h l)
  unfold advJ at this
  rw [List.flatMap_map] at this
  exact this
def ltP (a b:StpP):Prop:=a.sub.height.toNat < b.sub.height.toNat∨a.sub.height.toNat=b.sub.height.toNat∧a.place < b.place
theorem outJ_at {far:Int} {h:Nat} {l:List PlJ} {s:StpP} (hs:s∈outJ far h l):s.sub.height=UInt32.ofNat h:=by
 obtain ⟨p,_,hp⟩:=List.mem_filterMap.1 hs
 exact (stpO_at hp).2.1
theorem runA_at {far:Int} {s:StpP}:∀{k h:Nat} {l:List PlJ},s∈runA far k h l→h+k≤4294967296→h≤s.sub.height.toNat∧s.sub.height.toNat < h+k
 |0,h,l,hs,_=>by cases hs
 |k+1,h,l,hs,hk=>by
  rcases List.mem_append.1 hs with h1|h1
  ·rw [outJ_at h1,UInt32.toNat_ofNat',Nat.mod_eq_of_lt (by omega)]
   omega
  ·have:=runA_at h1 (by omega)
   omega
theorem advJ_places (far:Int) (h:Nat) (l:List PlJ):(advJ far h l).map (·.1)=l.map (·.1):=by
 unfold advJ
 rw [List.map_map]
 rfl
theorem outJ_sorted {far:Int} {h:Nat} {l:List PlJ} (hl:(l.map (·.1)).Pairwise (· < ·)):(outJ far h l).Pairwise ltP:=by
 unfold outJ
 rw [List.pairwise_filterMap]
 rw [List.pairwise_map] at hl
 refine hl.imp ?_
 intro a b hab x hx y hy
 obtain ⟨a1,a2,_⟩:=stpO_at hx
 obtain ⟨b1,b2,_⟩:=stpO_at hy
 right
 rw [a1,a2,b1,b2]
 exact ⟨rfl,hab⟩
theorem runA_sorted {far:Int}:∀{k h:Nat} {l:List PlJ},(l.map (·.1)).Pairwise (· < ·)→h+k≤4294967296→(runA far k h l).Pairwise ltP
 |0,h,l,_,_=>.nil
 |k+1,h,l,hl,hk=>by
  refine List.pairwise_append.2 ⟨outJ_sorted hl,runA_sorted (by rw [advJ_places];exact hl) (by omega),fun x hx y hy=>?_⟩
  have h1:=runA_at hy (by omega)
  left
  rw [outJ_at hx,UInt32.toNat_ofNat',Nat.mod_eq_of_lt (by omega)]
  omega
theorem placed_sorted (l:List JobP):((placed l).map (·.1)).Pairwise (· < ·):=by
 unfold placed
 rw [List.map_map]
 show (List.map (fun p:JobP×Nat=>(p.2:Int)) l.zipIdx).Pairwise _
 rw [List.pairwise_map]
 have h1:(l.zipIdx.map (·.2)).Pairwise (· < ·):=by
  rw [List.zipIdx_map_snd]
  exact List.pairwise_lt_range'
 rw [List.pairwise_map] at h1
 exact h1.imp fun hab=>by omega
theorem perm_sorted {β:Type} {le lt:β→β→Prop} (hx:∀a b,lt a b→¬le b a):∀{l1 l2:List β},l1.Perm l2→l1.Pairwise le→l2.Pairwise lt→l1=l2
 | [],l2,hp,_,_=>(List.Perm.nil_eq hp)
 |x::xs, [],hp,_,_=>by cases hp.eq_nil
 |x::xs,y::ys,hp,h1,h2=>by
  have e:x=y:=by
   rcases List.mem_cons.1 (hp.mem_iff.1 (List.mem_cons_self ..)) with e|hm
   ·exact e
   ·rcases List.mem_cons.1 (hp.mem_iff.2 (List.mem_cons_self (a:=y))) with e|hm'
    ·exact e.symm
    ·exact absurd ((List.pairwise_cons.1 h1).1 y hm') (hx _ _ ((List.pairwise_cons.1 h2).1 x hm))
  subst e
  rw [perm_sorted hx (List.Perm.cons_inv hp) (List.pairwise_cons.1 h1).2 (List.pairwise_cons.1 h2).2]
def planA (far:Int) (ht:UInt32) (l:List JobP):List StpP:=runA far (4294967295 - ht.toNat) (ht.toNat+1) (placed l)
def planB (far:Int) (ht:UInt32) (l:List JobP) (n:Nat):List StpP:=runA far (min n (4294967295 - ht.toNat)) (ht.toNat+1) (placed l)
def stepsA (far:Int) (ht:UInt32) (l:List JobP):List StpP:=(placed l).flatMap fun p=>stepsP p.1 far p.2 ht
theorem plan_sorted {far:Int} {ht:UInt32} {l:List JobP} {R:List Stp} (hp:(R.map Stp.p).Perm (stepsA far ht l)) (hs:Srt cmpS R):R.map Stp.p=planA far ht l:=by
 have hlt:=ht.toNat_lt
 have h1:(R.map Stp.p).Pairwise fun a b=>¬ltP b a:=by
  rw [List.pairwise_map]
  refine hs.imp ?_
  intro a b hab hlt
  refine hab ?_
  unfold cmpS
  rw [if_pos (show b.sub.height.toNat < a.sub.height.toNat∨b.sub.height.toNat=a.sub.height.toNat∧b.place < a.place from hlt)]
  omega
 have h2:stepsA far ht l=(placed l).flatMap fun p=>runJ p.1 far (4294967295 - ht.toNat) (ht.toNat+1) p.2:=by
  unfold stepsA
  congr 1
  funext p
  exact stepsP_run _ _ _ _
 exact perm_sorted (fun a b hab hn=>hn hab) (hp.trans (h2▸runA_jobs _ _ _ _)) h1 (runA_sorted (placed_sorted l) (by omega))
theorem planA_cut (far:Int) (ht:UInt32) (l:List JobP) (n:Nat):∃r,planA far ht l=planB far ht l n++r∧(∀s∈planB far ht l n,s.sub.height.toNat≤ht.toNat+n)∧∀s∈r,ht.toNat+n < s.sub.height.toNat:=by
 have hlt:=ht.toNat_lt
 obtain ⟨m,hm⟩:∃m,min n (4294967295 - ht.toNat)=m:=⟨_,rfl⟩
 refine ⟨runA far (4294967295 - ht.toNat - m) (ht.toNat+1+m) (endA far m (ht.toNat+1) (placed l)),?_,fun s hs=>?_,fun s hs=>?_⟩
 ·unfold planA planB
  rw [hm,←runA_add,show m+(4294967295 - ht.toNat - m)=4294967295 - ht.toNat by omega]
 ·unfold planB at hs
  rw [hm] at hs
  have:=runA_at hs (by omega)
  omega
 ·have:=runA_at hs (by omega)
  by_cases hnn:n≤4294967295 - ht.toNat
  ·omega
  ·rw [show 4294967295 - ht.toNat - m=0 by omega] at hs
   cases hs
end Go.Proofs.YteabebmlclgakaaGreat
/- Sort0: arrays and rows; swaps; lengths in bits. No condition. -/
namespace Go.Proofs.YteabebmlclgakaaGreat
open Go.RowKit
section
variable {α : Type} [Inhabited α]
end
section
variable {α : Type} {S : Nat → Prop} {w0 w : World} {rs : List Res} {enc : α → List Value} {e : TypeId} {sz : Nat} {s : Sl α}
theorem st_ownx {a:Addr} {vs:List Value} {k:World→Prop} (h:Hp S w0 w rs) (j:Nat) (hj:rs[j]? =some (rowR e sz enc s)) {b ofs:Nat} (hA:s.A=some ⟨b,ofs,none⟩) (i:Nat) (ha:a=⟨b,ofs+i*sz,none⟩) (x':α) (hv:vs=enc x')
  (hi:i < s.l.length) (hs:∀x:α,(enc x).length=sz) (h1:(enc x').all Value.oneCell'=true) (hk:∀w',Hp S w0 w' (rs.set j (rowR e sz enc ⟨s.A,s.c,s.l.set i x'⟩))→k w'):St w a vs k:=by
 subst hv
 refine st_own h j hj hA i 0 (by rw [ha];rfl) (List.getElem?_eq_getElem hi) x' ?_ (by rw [hs,Nat.zero_add];exact Nat.le_refl _) h1 hk
 have key:∀(vs cs:List Value),cs.length=vs.length→layL vs 0 cs=vs:=by
  intro vs cs hl
  have:=layL_app vs [] cs [] hl
  simpa using this
 exact (key _ _ (by rw [hs,hs])).symm
end
section
variable {P : Program} {w : World} {ρ : Operand → Value} {o : Oper} {g : Value → World → Prop} {t : TypeId} {x i : Operand}
end
section
variable {α : Type} [Inhabited α] {lt : α → α → Bool} {d : Array α}
end
end Go.Proofs.YteabebmlclgakaaGreat
