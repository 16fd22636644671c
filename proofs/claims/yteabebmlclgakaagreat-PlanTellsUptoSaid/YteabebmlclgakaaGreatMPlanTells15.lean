/- MPlanTells15: Job1, Job2, Job3, StaP, Job4, Job5, Job6, Job7, SendP, StabP. -/
import Derived.Test.YteabebmlclgakaaGreatMPlanTells14
import Derived.Test.YteabebmlclgakaaGreatMPlanTells6
import Derived.Test.YteabebmlclgakaaGreatMPlanTells7
import Derived.Test.YteabebmlclgakaaGreatMPlanTells12
import Derived.Test.YteabebmlclgakaaGreatMPlanTells4
set_option linter.unusedSimpArgs false
set_option linter.unusedVariables false
/- Job1: the table of jobs: what it holds, its small functions. No condition. -/
namespace Go.Proofs.YteabebmlclgakaaGreat
open Go.RowKit
set_option maxRecDepth 100000
set_option maxHeartbeats 2000000
theorem lku_mem {κ ν:Type} [DecidableEq κ] {k:κ} {v:ν}:∀{l:List (κ×ν)},l.lookup k=some v→(k,v)∈l
 | [],h=>by simp at h
 |p::l,h=>by
  rw [List.lookup_cons] at h
  by_cases hk:k=p.1
  ·have hb:(k==p.1)=true:=by simpa using hk
   rw [hb] at h
   cases h
   subst hk
   simp
  ·have hb:(k==p.1)=false:=by simpa using hk
   rw [hb] at h
   exact List.mem_cons_of_mem _ (lku_mem h)
structure JobP where
 key:Key
 breach:Id
 height:UInt32
 mined:UInt32
 live:Int
 tiers:List (UInt32×List UInt8)
deriving DecidableEq
def Job.p (j:Job):JobP:=⟨j.key,j.breach,j.height,j.mined,j.live,j.pay.l.map tk⟩
def rightJ (j:Job):Bool:=rightP j.pay && decide (j.height.toNat≠0∧ -1≤j.live∧j.live < (j.pay.l.length:Int)∧(j.mined.toNat=0∨j.live= -1))
theorem el_job:ElT Tryz.prog 29 49 38 80:=elt_of (z:=Job.v ⟨⟨0,0⟩,Id.z,0,0,0,Sl.nil⟩) Tryz.underlying29 (by kernel_rfl) rfl (by omega)
theorem job_one {l:List Job}:∀x∈l,∀u∈Job.c x,u.oneCell'=true:=fun x _ u hu=>List.all_eq_true.1 (show (Job.c x).all Value.oneCell'=true from rfl) u hu
structure EntB where
 b:Nat
 job:Job
 ids:Sl Id
abbrev EntB.c (x:EntB):List Value:=(u32 x.job.key.ses::u32 x.job.key.seq::u8 x.job.breach[0]::u8 x.job.breach[1]::u8 x.job.breach[2]::u8 x.job.breach[3]::u8 x.job.breach[4]::u8 x.job.breach[5]::u8 x.job.breach[6]::u8 x.job.breach[7]::u8 x.job.breach[8]::u8 x.job.breach[9]::u8 x.job.breach[10]::u8 x.job.breach[11]::u8 x.job.breach[12]::u8 x.job.breach[13]::u8 x.job.breach[14]::u8 x.job.breach[15]::u8 x.job.breach[16]::u8 x.job.breach[17]::u8 x.job.breach[18]::u8 x.job.breach[19]::u8 x.job.breach[20]::u8 x.job.breach[21]::u8 x.job.breach[22]::u8 x.job.breach[23]::u8 x.job.breach[24]::u8 x.job.breach[25]::u8 x.job.breach[26]::u8 x.job.breach[27]::u8 x.job.breach[28]::u8 x.job.breach[29]::u8 x.job.breach[30]::u8 x.job.breach[31]::u32 x.job.height::u32 x.job.mined::i64 x.job.live::x.job.pay.v::x.ids.v:: [])
def ptO:Option EntB→Value
 |none=>.pointer none
 |some x=>ptr x.b
def ol (l:List (Key×EntB)):List (Key×Option EntB):=l.map fun p=>(p.1,some p.2)
theorem ol_keys (l:List (Key×EntB)):(ol l).map (·.1)=l.map (·.1):=by simp [ol,List.map_map,Function.comp_def]
theorem ol_lookup (k:Key):∀l:List (Key×EntB),((ol l).lookup k).getD none=l.lookup k∧((ol l).lookup k).isSome=(l.lookup k).isSome
 | []=>⟨rfl,rfl⟩
 |p::l=>by
  have ih:=ol_lookup k l
  unfold ol at ih ⊢
  rw [List.map_cons,List.lookup_cons,List.lookup_cons]
  by_cases hk:k=p.1
  ·have hb:(k==p.1)=true:=by simpa using hk
   rw [hb]
   exact ⟨rfl,rfl⟩
  ·have hb:(k==p.1)=false:=by simpa using hk
   rw [hb]
   exact ih
abbrev jentRs (p:Key×EntB):List Res:=cel p.2.b 198 (EntB.c p.2).toArray::rowR 44 32 Id.c p.2.ids::payRs p.2.job.pay
def jentR (p:Key×EntB):Res:=star (jentRs p)
abbrev jtRs (b m:Nat) (ord:Sl Key) (l:List (Key×EntB)):List Res:=cel b 181 #[.map (some m),ord.v]::mapR Key.v ptO m (ol l)::rowR 42 2 Key.c ord::l.map jentR
structure JentAt (w:World) (p:Key×EntB):Prop where
 cel:w.heap[p.2.b]? =some (.cells (EntB.c p.2).toArray 198)
 ids:SlAt w.heap.size w Id.c 32 p.2.ids
 pay:PayAt w.heap.size w p.2.job.pay
structure JtAt (w:World) (b m:Nat) (ord:Sl Key) (l:List (Key×EntB)):Prop where
 cel:w.heap[b]? =some (.cells #[.map (some m),ord.v] 181)
 map:MapAt Key.v ptO w m (ol l)
 ord:SlAt w.heap.size w Key.c 2 ord
 ent:∀p∈l,JentAt w p
theorem jentAt {w:World} {p:Key×EntB} (h:(jentR p).ok w):JentAt w p:=by
 have hp:=Hp.open (show (star (jentRs p)).ok w from h)
 exact ⟨hp.cel_get (j:=0) rfl,hp.row (j:=1) rfl,payRs_at hp (List.Sublist.cons _ (List.Sublist.cons _ (List.Sublist.refl _)))⟩
theorem jtAt {w:World} {b m:Nat} {ord:Sl Key} {l:List (Key×EntB)} (h:(star (jtRs b m ord l)).ok w):JtAt w b m ord l:=by
 have hp:=Hp.open h
 exact ⟨hp.cel_get (j:=0) rfl,mapR_ok.1 (hp.get (j:=1) rfl),hp.row (j:=2) rfl,fun p hm=>jentAt (hp.ok (jentR p) (List.mem_cons_of_mem _ (List.mem_cons_of_mem _ (List.mem_cons_of_mem _ (List.mem_map_of_mem hm)))))⟩
structure JtI (ord:List Key) (l:List (Key×EntB)):Prop where
 ord:ord=l.map (·.1)
 nd:(l.map (·.1)).Nodup
 key:∀p∈l,p.2.job.key=p.1
 right:∀p∈l,rightJ p.2.job=true
 ids:∀p∈l,p.2.ids.l=idsP p.2.job.pay
theorem jnew_any (w0:World):Calls Tryz.prog 65 #[] w0 fun e w'=>∃b m,e= .returned (ptr b)∧Made (star (jtRs b m Sl.nil [])) w0 w':=by
 have hp:=Hp.start (S:=N0) w0
 refine calls_x (args:= []) tabOk Tryz.func65 Tryz.ntmps65 Tryz.results65 rfl (Nat.le_of_ble_eq_true rfl) ?_
 ((conv=>whnf);repeat' ((first|((with_reducible refine al_id ?_);(refine al_cel hp ?_;clear hp;intro bb w hp))|((with_reducible refine gen_id ?_);first|((refine gen_mmake rfl Key.v ptO hp ?_);clear hp;intro bb w hp)|(apply gen_build;exact rfl;exact rfl)))<;>(conv=>whnf)))
 replace hp:=hp.nilRow 42 2 Key.c
 exact ps_of ⟨_,_,rfl,(hp.perm (rs':= [_,_,_]) ((List.Perm.swap ..).trans (.cons _ (.swap ..)))).made (.refl _)⟩
theorem jabsent_any {w0:World} {b m:Nat} (hc:w0.cell? ⟨b,0,none⟩=some (.map (some m))):Calls Tryz.prog 192 #[ptr b] w0 fun e w'=>e= .returned (.bool false)∧Chg N0 w0 w':=by
 have hp:=Hp.start (S:=N0) w0
 refine calls_x (args:= [_]) tabOk Tryz.func192 Tryz.ntmps192 Tryz.results192 rfl (Nat.le_of_ble_eq_true rfl) ?_
 ((conv=>whnf);repeat' ((first|((with_reducible refine br_id ?_);(with_reducible refine br_f ?_))|((with_reducible refine ld_id ?_);((refine ld_of (hp.chg.cell0 hc) ?_))))<;>(conv=>whnf)))
 exact ps_val (v':= .bool false) rfl ⟨rfl,hp.chg⟩
theorem jright_any {B:Nat} {w0:World} {j:Job} (h:PayAt B w0 j.pay) (hl: -9223372036854775808≤j.live∧j.live≤9223372036854775807):Calls Tryz.prog 193 #[j.v] w0 fun e w'=>e= .returned (.bool (rightJ j))∧Chg N0 w0 w':=by
 have hp:=Hp.start (S:=N0) w0
 have hB:∀b,N0 b→B≤b:=fun _ hh=>hh.elim
 have u1:=Tryz.underlying45
 have hmax:j.pay.l.length≤9223372036854775807:=by have:=h.row.le;have:=h.row.max;simp only [maxLen] at this;omega
 obtain ⟨q,hq⟩:∃q,rightP j.pay=q:=⟨_,rfl⟩
 have hr:rightJ j=(q && decide (j.height.toNat≠0∧ -1≤j.live∧j.live < (j.pay.l.length:Int)∧(j.mined.toNat=0∨j.live= -1))):=by unfold rightJ;rw [hq]
 have hcall:∀{w:World},Chg N0 w0 w→Calls Tryz.prog 216 #[j.pay.pv] w fun e w'=>e= .returned (.bool q)∧Chg N0 w w':=fun hc=>by rw [←hq];exact rightp_any (h.keep hc hB)
 rw [hr]
 refine calls_x (args:= [_]) tabOk Tryz.func193 Tryz.ntmps193 Tryz.results193 rfl (Nat.le_of_ble_eq_true rfl) ?_
 cases q with
 |false=>
  ((conv=>whnf);repeat' ((first|((with_reducible refine br_id ?_);(with_reducible refine br_f ?_))|((with_reducible refine ldn_id ?_);(apply ldn_hs hp;(focus repeat' constructor);exact rfl;exact rfl))|((with_reducible refine al_id ?_);(refine al_cel hp ?_;clear hp;intro bb w hp))|((with_reducible refine cl_id ?_);((refine cl_eq ((hcall hp.chg)) rfl rfl ?_;rintro e w ⟨rfl,hcc⟩;replace hp:=hp.call0 hcc;refine ⟨_,rfl,?_⟩))))<;>(conv=>whnf)))
  exact ps_val (v':= .bool false) rfl ⟨rfl,hp.chg⟩
 |true=>
  ((conv=>whnf);repeat' ((first|((with_reducible refine br_id ?_);first|(with_reducible refine br_t ?_)|(with_reducible refine br_f ?_)|((with_reducible refine br_dec (fun hx=>?_) (fun hx=>?_))<;>(try (exfalso;first|omega|contradiction)))|((with_reducible refine br_eq (fun hx=>?_) (fun hx=>?_))<;>(try (exfalso;first|omega|contradiction)))|((with_reducible refine br_ne (fun hx=>?_) (fun hx=>?_))<;>(try (exfalso;first|omega|contradiction))))|((with_reducible refine ld_id ?_);(apply ld_hs hp;(focus repeat' constructor);exact rfl))|((with_reducible refine ldn_id ?_);(apply ldn_hs hp;(focus repeat' constructor);exact rfl;exact rfl))|((with_reducible refine al_id ?_);(refine al_cel hp ?_;clear hp;intro bb w hp))|((with_reducible refine gen_id ?_);(apply gen_len;exact rfl;exact rfl;assumption))|((with_reducible refine cl_id ?_);((refine cl_eq ((hcall hp.chg)) rfl rfl ?_;rintro e w ⟨rfl,hcc⟩;replace hp:=hp.call0 hcc;refine ⟨_,rfl,?_⟩))))<;>(conv=>whnf)))
  all_goals first
   |exact ps_val (v':= .bool false) rfl ⟨by rw [Bool.true_and,decide_eq_false (by omega)],hp.chg⟩
   |exact ps_val (v':= .bool true) rfl ⟨by rw [Bool.true_and,decide_eq_true (by omega)],hp.chg⟩
   |exact ps_val (v':= .bool (decide (j.live= -1))) rfl ⟨by rw [Bool.true_and];exact congrArg (fun b=>Ending.returned (.bool b)) (decide_eq_decide.2 (by omega)),hp.chg⟩
theorem rightJ_pay {j:Job} (h:rightJ j=true):rightP j.pay=true:=by
 unfold rightJ at h
 rw [Bool.and_eq_true] at h
 exact h.1
theorem rightP_few {p:Payload} (h:rightP p=true):fewP p=true:=by
 obtain ⟨_,h2,h3⟩:=rightP_at h
 unfold fewP
 rw [Bool.and_eq_true,List.all_eq_true]
 exact ⟨fun t ht=>decide_eq_true (by have:=h3 t ht;omega),decide_eq_true (by omega)⟩
theorem jown_any {B:Nat} {w0:World} {j:Job} (h:PayAt B w0 j.pay) (hBw:B≤w0.heap.size) (hf:fewP j.pay=true):Calls Tryz.prog 126 #[j.v] w0 fun e w'=>∃r:Payload,r.l.map tk=j.pay.l.map tk∧e= .returned (Job.v {j with pay:=r})∧Made (star (payRs r)) w0 w':=by
 have hp:=Hp.start (S:=N0) w0
 have hB:∀b,N0 b→B≤b:=fun _ hh=>hh.elim
 refine calls_x (args:= [_]) tabOk Tryz.func126 Tryz.ntmps126 Tryz.results126 rfl (Nat.le_of_ble_eq_true rfl) ?_
 ((conv=>whnf);repeat' ((first|((with_reducible refine ldn_id ?_);(apply ldn_hs hp;(focus repeat' constructor);exact rfl;exact rfl))|((with_reducible refine al_id ?_);(refine al_cel hp ?_;clear hp;intro bb w hp)))<;>(conv=>whnf)))
 refine cl_eq (copyp_any (h.keep hp.chg hB) (Nat.le_trans hBw hp.chg.size) hf) rfl rfl ?_
 rintro e w ⟨r,hr,rfl,hm⟩
 replace hp:=hp.add hm
 clear hm
 refine ⟨_,rfl,?_⟩
 ((conv=>whnf);repeat' ((first|((with_reducible refine cn_id ?_);(refine cn rfl ?_))|((with_reducible refine ldn_id ?_);(apply lda_hs hp;(focus repeat' constructor);exact rfl))|((with_reducible refine st_id ?_);first|(apply sta_hs hp;(focus repeat' constructor);exact rfl;exact rfl;clear hp;intro w hp;(try dsimp only [List.set] at hp))|(apply st_hs hp;(focus repeat' constructor);exact rfl;exact rfl;clear hp;intro w hp;(try dsimp only [List.set] at hp))))<;>(conv=>whnf)))
 exact ps_val (v':=Job.v {j with pay:=r}) rfl ⟨r,hr,rfl,hp.made1 (j:=0) rfl⟩
end Go.Proofs.YteabebmlclgakaaGreat
/- Job2: the table of jobs: Add. No condition. -/
namespace Go.Proofs.YteabebmlclgakaaGreat
open Go.RowKit
set_option maxRecDepth 100000
set_option maxHeartbeats 2000000
theorem rd_pneq {P:Program} {ρ:Operand→Value} {o:Oper} {w:World} {g:Value→Prop} {t t2 e:TypeId} {x y:Operand} (hop:o.op= .binOp .neq t x y t2) {a:Option Addr} (hx:ρ x= .pointer a) (hy:ρ y= .pointer none) (ht:P.underlying t=some (.pointer e)) {q:Bool} (hq:(!a.isNone)=q) (hk:g (.bool q)):Rd P ρ o w g:=by
 subst hq
 refine ⟨_,fun w' _=>?_,hk⟩
 have hg:eqGuard .neq t x y (ρ x) (ρ y)=pure ():=by rw [hx];exact eqGuard_at_pointer ..
 have h':=(run_eql_of (P:=P) (w:=w') (t:=t) (eqIn_ptr 9999 ht a) (fun op=>by cases op<;>rfl)).2
 rw [hx,hy] at hg
 simp only [execOp,hop,hx,hy,hg,Sem.run_bind,Sem.run_pure,Result.andThen_ok,h']
structure PayOut (S:Nat→Prop) (B:Nat) (w:World) (p:Payload):Prop where
 row:SlOut S B w Tier.c 2 p
 tx:∀t∈p.l,SlOut S B w u8L 1 t.tx
theorem PayOut.keep {S:Nat→Prop} {B:Nat} {w w':World} {p:Payload} (h:PayOut S B w p) (hc:Chg S w w'):PayAt B w' p:=⟨h.row.keep hc,fun t ht=>(h.tx t ht).keep hc⟩
theorem ol_new {l:List (Key×EntB)} {k:Key} {x:EntB} (h:l.lookup k=none):mput (ol l) k (some x)=ol (l++ [(k,x)]):=by
 have hn:k∉(ol l).map (·.1):=by
  rw [ol_keys]
  intro hm
  obtain ⟨p,hp,hk⟩:=List.mem_map.1 hm
  rw [List.lookup_eq_none_iff] at h
  have:=h p hp
  rw [bne_iff_ne] at this
  exact this hk.symm
 unfold mput
 rw [if_neg hn]
 simp [ol]
def jaddE (l:List (Key×EntB)) (j:Job):Int:=if rightJ j=false then 1 else if (l.lookup j.key).isSome=true then 6 else 0
theorem JtI.add {ord:List Key} {l:List (Key×EntB)} (h:JtI ord l) {j:Job} {x:EntB} {r:Payload} (hl:l.lookup j.key=none) (hr:rightJ j=true) (hrp:r.l.map tk=j.pay.l.map tk) (hx:x.job={j with pay:=r}) (hi:x.ids.l=idsP j.pay) (hrr:rightJ {j with pay:=r}=true) (hii:idsP r=idsP j.pay):JtI (ord++ [j.key]) (l++ [(j.key,x)]):=by
 have hn:j.key∉l.map (·.1):=by
  intro hm
  obtain ⟨p,hp,hk⟩:=List.mem_map.1 hm
  rw [List.lookup_eq_none_iff] at hl
  have:=hl p hp
  rw [bne_iff_ne] at this
  exact this hk.symm
 refine ⟨by rw [h.ord];simp,?_,?_,?_,?_⟩
 ·rw [List.map_append,List.nodup_append]
  refine ⟨h.nd,by simp,fun a ha b hb=>?_⟩
  simp at hb
  subst hb
  exact fun e=>hn (e▸ha)
 all_goals
  intro p hp
  rcases List.mem_append.1 hp with hp|hp
 ·exact h.key p hp
 ·simp at hp;subst hp;rw [hx]
 ·exact h.right p hp
 ·simp at hp;subst hp;rw [hx];exact hrr
 ·exact h.ids p hp
 ·simp at hp;subst hp;rw [hx,hi,hii]
theorem ids_congr {p q:Payload} (h:p.l.map tk=q.l.map tk):idsP p=idsP q:=by
 have e:∀l:List Tier,(l.map fun t=>shaV t.tx.l)=(l.map tk).map fun x=>shaV x.2:=fun l=>by rw [List.map_map];rfl
 show (p.l.map fun t=>shaV t.tx.l)=q.l.map fun t=>shaV t.tx.l
 rw [e,e,h]
theorem tierOk_congr {l m:List Tier} (h:l.map tk=m.map tk) (i:Nat):tierOk l i=tierOk m i:=by
 have hg:∀j,(l[j]?).map tk=(m[j]?).map tk:=fun j=>by rw [←List.getElem?_map,←List.getElem?_map,h]
 have e:∀l:List Tier,tierOk l i=(match (l[i]?).map tk with
   |some t=>decide (1≤t.2.length∧t.2.length≤64) && (match i with
    |0=>true
    |k+1=>match (l[k]?).map tk with
     |some s=>decide (s.1.toNat < t.1.toNat)
     |none=>true)
   |none=>true):=fun l=>by
  unfold tierOk
  cases l[i]? with
  |none=>rfl
  |some t=>
   cases i with
   |zero=>rfl
   |succ k=>
    dsimp only [Option.map_some]
    cases l[k]? <;>rfl
 rw [e,e,hg]
 cases i with
 |zero=>rfl
 |succ k=>dsimp only;rw [hg]
theorem rightP_congr {p q:Payload} (h:p.l.map tk=q.l.map tk):rightP p=rightP q:=by
 have hl:p.l.length=q.l.length:=by have:=congrArg List.length h;simpa using this
 unfold rightP
 rw [hl]
 congr 1
 refine congrArg (fun f=>(List.range q.l.length).all f) (funext fun i=>tierOk_congr h i)
theorem rightJ_congr {j:Job} {r:Payload} (h:r.l.map tk=j.pay.l.map tk):rightJ {j with pay:=r}=rightJ j:=by
 have hl:r.l.length=j.pay.l.length:=by have:=congrArg List.length h;simpa using this
 unfold rightJ
 rw [rightP_congr (p:=r) (q:=j.pay) h]
 show (rightP j.pay && decide (_∧_∧j.live < (r.l.length:Int)∧_))=_
 rw [hl]
theorem Hp.fold3 {S:Nat→Prop} {w0 w:World} {a c:Res} {P rest:List Res} (h:Hp S w0 w (a::c::star P::rest)):Hp S w0 w (star (a::c::P)::rest):=by
 have h1:Hp S w0 w (P++(a::c::rest)):=(h.perm (((List.Perm.swap ..).cons _).trans (.swap ..))).unfold
 have h2:Hp S w0 w ((a::c::P)++rest):=h1.perm (List.perm_middle.trans (List.perm_middle.cons _))
 have h3:=h2.fold (a::c::P).length
 rwa [List.take_left,List.drop_left] at h3
theorem Hp.tail_swap {S:Nat→Prop} {w0 w:World} {a c:Res} {rest:List Res} (h:Hp S w0 w (a::c::rest)):Hp S w0 w (a::rest):=(h.perm (.swap ..)).tail
theorem jadd_any {B:Nat} {w0:World} {b m:Nat} {ord:Sl Key} {l:List (Key×EntB)} (h:(star (jtRs b m ord l)).ok w0) (hI:JtI ord.l l) (hmany:l.length≤100000) {j:Job} (hj:PayOut (star (jtRs b m ord l)).dom B w0 j.pay) (hBw:B≤w0.heap.size) (hlv: -9223372036854775808≤j.live∧j.live≤9223372036854775807):
  Calls Tryz.prog 120 #[ptr b,j.v] w0 fun e w'=>∃ord' l',e= .returned (i64 (jaddE l j))∧JtI ord'.l l'∧(jaddE l j≠0→l'=l)∧(jaddE l j=0→∃x:EntB,l'=l++ [(j.key,x)]∧x.job.p=j.p)∧Mut (star (jtRs b m ord l)) (star (jtRs b m ord' l')) w0 w':=by
 have hp:=Hp.open h
 have hT:=jtAt h
 have um:=Tryz.underlying179
 have up:=Tryz.underlying194
 have hJ:∀{w:World},Chg (star (jtRs b m ord l)).dom w0 w→Calls Tryz.prog 193 #[j.v] w fun e w'=>e= .returned (.bool (rightJ j))∧Chg N0 w w':=fun hc=>jright_any (hj.keep hc) hlv
 obtain ⟨q,hq⟩:∃q,rightJ j=q:=⟨_,rfl⟩
 rw [hq] at hJ
 cases q with
 |false=>
  have hE:jaddE l j=1:=if_pos hq
  rw [hE]
  refine calls_x (args:= [_,_]) tabOk Tryz.func120 Tryz.ntmps120 Tryz.results120 rfl (Nat.le_of_ble_eq_true rfl) ?_
  ((conv=>whnf);repeat' ((first|((with_reducible refine br_id ?_);first|(with_reducible refine br_f ?_)|(with_reducible refine br_not ?_))|((with_reducible refine ldn_id ?_);(apply lda_hs hp;(focus repeat' constructor);exact rfl))|((with_reducible refine al_id ?_);(refine al_cel hp ?_;clear hp;intro bb w hp))|((with_reducible refine cl_id ?_);first|((refine cl_eq ((jabsent_any (cell_of_heap (hp.cel_get (j:=1) rfl) rfl))) rfl rfl ?_;rintro e w ⟨rfl,hcc⟩;replace hp:=hp.call0 hcc;refine ⟨_,rfl,?_⟩))|((refine cl_eq ((hJ hp.chg)) rfl rfl ?_;rintro e w ⟨rfl,hcc⟩;replace hp:=hp.call0 hcc;refine ⟨_,rfl,?_⟩))))<;>(conv=>whnf)))
  exact ps_val (v':=i64 1) rfl ⟨ord,l,rfl,hI,fun _=>rfl,fun hh=>absurd hh (by decide),hp.tail.shut (.refl _)⟩
 |true=>
 have hne:¬rightJ j=false:=by rw [hq];simp
 cases hlk:l.lookup j.key with
 |some x=>
  have hE:jaddE l j=6:=by unfold jaddE;rw [if_neg hne,hlk];rfl
  rw [hE]
  have hv:((ol l).lookup j.key).getD none=some x:=by rw [(ol_lookup _ _).1,hlk]
  refine calls_x (args:= [_,_]) tabOk Tryz.func120 Tryz.ntmps120 Tryz.results120 rfl (Nat.le_of_ble_eq_true rfl) ?_
  ((conv=>whnf);repeat' ((first|((with_reducible refine br_id ?_);first|(with_reducible refine br_t ?_)|(with_reducible refine br_f ?_)|(with_reducible refine br_not ?_))|((with_reducible refine ld_id ?_);(apply ld_hs hp;(focus repeat' constructor);exact rfl))|((with_reducible refine ldn_id ?_);first|(apply lda_hs hp;(focus repeat' constructor);exact rfl)|(apply ldn_hs hp;(focus repeat' constructor);exact rfl;exact rfl))|((with_reducible refine al_id ?_);(refine al_cel hp ?_;clear hp;intro bb w hp))|((with_reducible refine dr_id ?_);(refine dr_auto tabOk (by kernel_rfl) (by decide+kernel) ?_;(try replace hp:=hp.drew)))|((with_reducible refine cl_id ?_);first|((refine cl_eq ((jabsent_any (cell_of_heap (hp.cel_get (j:=1) rfl) rfl))) rfl rfl ?_;rintro e w ⟨rfl,hcc⟩;replace hp:=hp.call0 hcc;refine ⟨_,rfl,?_⟩))|((refine cl_eq ((hJ hp.chg)) rfl rfl ?_;rintro e w ⟨rfl,hcc⟩;replace hp:=hp.call0 hcc;refine ⟨_,rfl,?_⟩)))|((with_reducible refine rd_id ?_);first|((refine rd_lookM rfl (mapR_ok.1 (hp.get (j:=2) rfl)) rfl keyK um (z:=none) rfl j.key rfl hv ?_))|((refine rd_pneq (q:=true) rfl rfl rfl up rfl ?_))))<;>(conv=>whnf)))
  exact ps_val (v':=i64 6) rfl ⟨ord,l,rfl,hI,fun _=>rfl,fun hh=>absurd hh (by decide),hp.tail.shut (.refl _)⟩
 |none=>
  have hE:jaddE l j=0:=by unfold jaddE;rw [if_neg hne,hlk];rfl
  rw [hE]
  have hv:((ol l).lookup j.key).getD none=none:=by rw [(ol_lookup _ _).1,hlk]
  have hf:=rightP_few (rightJ_pay hq)
  refine calls_x (args:= [_,_]) tabOk Tryz.func120 Tryz.ntmps120 Tryz.results120 rfl (Nat.le_of_ble_eq_true rfl) ?_
  ((conv=>whnf);repeat' ((first|((with_reducible refine br_id ?_);first|(with_reducible refine br_t ?_)|(with_reducible refine br_f ?_)|(with_reducible refine br_not ?_))|((with_reducible refine ld_id ?_);(apply ld_hs hp;(focus repeat' constructor);exact rfl))|((with_reducible refine ldn_id ?_);first|(apply lda_hs hp;(focus repeat' constructor);exact rfl)|(apply ldn_hs hp;(focus repeat' constructor);exact rfl;exact rfl))|((with_reducible refine al_id ?_);(refine al_cel hp ?_;clear hp;intro bb w hp))|((with_reducible refine dr_id ?_);first|(refine dr_auto tabOk (by kernel_rfl) (by decide+kernel) ?_;(try replace hp:=hp.drew))|(refine dr_autog tabOk (by kernel_rfl) (by decide+kernel) ?_;(try replace hp:=hp.drew)))|((with_reducible refine cl_id ?_);first|((refine cl_eq ((jabsent_any (cell_of_heap (hp.cel_get (j:=1) rfl) rfl))) rfl rfl ?_;rintro e w ⟨rfl,hcc⟩;replace hp:=hp.call0 hcc;refine ⟨_,rfl,?_⟩))|((refine cl_eq ((hJ hp.chg)) rfl rfl ?_;rintro e w ⟨rfl,hcc⟩;replace hp:=hp.call0 hcc;refine ⟨_,rfl,?_⟩)))|((with_reducible refine rd_id ?_);first|((refine rd_lookM rfl (mapR_ok.1 (hp.get (j:=2) rfl)) rfl keyK um (z:=none) rfl j.key rfl hv ?_))|((refine rd_pneq (q:=false) rfl rfl rfl up rfl ?_))))<;>(conv=>whnf)))
  refine cl_eq (jown_any (hj.keep hp.chg) (Nat.le_trans hBw hp.chg.size) hf) rfl rfl ?_
  rintro e w ⟨r,hr,rfl,hm⟩
  replace hp:=hp.add hm
  replace hm:=hm.chg
  refine ⟨_,rfl,?_⟩
  ((conv=>whnf);repeat' (((with_reducible refine cn_id ?_);(refine cn ‹_› ?_))<;>(conv=>whnf)))
  obtain ⟨b3,hb3⟩:∃y:Nat,y=bb:=⟨_,rfl⟩
  subst hb3
  refine cl_eq (ids_any (hj.keep hp.chg) (Nat.le_trans hBw hp.chg.size) hf) rfl rfl ?_
  rintro e w ⟨ids,hids,rfl,hm2⟩
  replace hp:=hp.add hm2
  replace hm2:=hm2.chg
  refine ⟨_,rfl,?_⟩
  ((conv=>whnf);repeat' ((first|((with_reducible refine cn_id ?_);(refine cn ‹_› ?_))|((with_reducible refine al_id ?_);(refine al_cel hp ?_;clear hp;intro bb w hp))|((with_reducible refine gen_id ?_);first|((refine gen_build (t:=198) (out:=(EntB.c ⟨0,{j with pay:=r},ids⟩)) rfl (by kernel_rfl) ?_))|((refine gen_put rfl hp 5 rfl rfl keyK um (j.key) rfl ((some (EntB.mk bb {j with pay:=r} ids))) rfl ?_);clear hp;intro w hp)))<;>(conv=>whnf)))
  obtain ⟨x,hx⟩:∃x:EntB,x=⟨bb,{j with pay:=r},ids⟩:=⟨_,rfl⟩
  have hxb:bb=x.b:=by rw [hx]
  have hxj:x.job={j with pay:=r}:=by rw [hx]
  have hxi:x.ids=ids:=by rw [hx]
  have hxc:(EntB.c ⟨0,{j with pay:=r},ids⟩)=EntB.c x:=by rw [hx]
  have hxr:payRs r=payRs x.job.pay:=by rw [hx]
  rw [←hx,ol_new hlk,hxc,hxr,hxb,←hxi] at hp
  have hol:ord.l.length≤100000:=by rw [hI.ord,List.length_map];exact hmany
  have hro:rightJ {j with pay:=r}=true:=by rw [rightJ_congr hr];exact hq
  have hJI:=hI.add hlk hq hr hxj (by rw [hxi];exact hids) hro (ids_congr hr)
  have hpx:x.job.p=j.p:=by rw [hxj];simp [Job.p,hr]
  clear hx hxb hxj hxc hxr hm hm2 hids hxi
  dsimp only [List.set] at hp
  ((conv=>whnf);repeat' ((first|((with_reducible refine cn_id ?_);(refine cn rfl ?_))|((with_reducible refine ld_id ?_);(apply ld_hs hp;(focus repeat' constructor);exact rfl))|((with_reducible refine ldn_id ?_);(apply ldn_hs hp;(focus repeat' constructor);exact rfl;exact rfl))|((with_reducible refine st_id ?_);(apply st_hs hp;(focus repeat' constructor);exact rfl;exact rfl;clear hp;intro w hp;(try dsimp only [List.set] at hp)))|((with_reducible refine gen_id ?_);first|((refine gen_bs rfl hp el_key Key.c [j.key] [j.key.v] rfl rfl rfl (fun _ hh=>by simp at hh;subst hh;rfl) (by omega) ?_);clear hp;intro br w hp)|((refine gen_app (s:=ord) rfl hp 7 rfl el_key rfl ⟨some ⟨br,0,none⟩,1, [j.key]⟩ rfl (hp.row (j:=0) rfl) (fun _ _=>rfl) key_one (by simp only [List.length_cons,List.length_nil];omega) (by simp only [maxLen,List.length_cons,List.length_nil];omega) ?_);clear hp;intro A2 c2 w hp;dsimp only [List.set] at hp))|((with_reducible refine dr_id ?_);(refine dr_auto tabOk (by kernel_rfl) (by decide+kernel) ?_;(try replace hp:=hp.drew))))<;>(conv=>whnf)))
  refine ps_val (v':=i64 0) rfl ⟨⟨A2,c2,ord.l++ [j.key]⟩,l++ [(j.key,x)],rfl,hJI,fun hh=>absurd rfl hh,fun _=>⟨x,rfl,hpx⟩,?_⟩
  have h1:=hp.tail.fold3.tail_swap
  have h2:(l++ [(j.key,x)]).map jentR=l.map jentR++ [jentR (j.key,x)]:=List.map_append
  refine (h1.perm ?_).shut (.refl _)
  unfold jtRs
  rw [h2]
  exact (List.perm_append_singleton _ (_::_::_::l.map jentR)).symm
end Go.Proofs.YteabebmlclgakaaGreat
/- Job3: the table of jobs: those of a kind. -/
namespace Go.Proofs.YteabebmlclgakaaGreat
open Go.RowKit
set_option maxRecDepth 100000
set_option maxHeartbeats 4000000
end Go.Proofs.YteabebmlclgakaaGreat
/- StaP: states as they are told; states of the call's own. No condition. -/
namespace Go.Proofs.YteabebmlclgakaaGreat
open Go.RowKit
set_option maxRecDepth 100000
set_option maxHeartbeats 2000000
structure BlkP where
 hash:Id
 parent:Id
 txs:List Id
deriving DecidableEq
def Blk.p (x:Blk):BlkP:=⟨x.hash,x.parent,x.tx.l⟩
structure StaP where
 cfg:Cfg
 ht:UInt32
 halt:Int
 next:UInt32
 win:List BlkP
 ses:List Sess
 blobs:List BlP
 jobs:List JobP
deriving DecidableEq
def Sta.p (x:Sta):StaP:=⟨x.cfg,x.ht,x.halt,x.next,x.win.l.map Blk.p,x.ses.l,x.blobs.l.map Blob.p,x.jobs.l.map Job.p⟩
abbrev btxR (b:Blk):Res:=rowR 44 32 Id.c b.tx
abbrev winRs (s:Sl Blk):List Res:=rowR 54 65 Blk.c s::s.l.map btxR
end Go.Proofs.YteabebmlclgakaaGreat
/- Job4: the table of jobs: the list of all; which tier is live. -/
namespace Go.Proofs.YteabebmlclgakaaGreat
open Go.RowKit
set_option maxRecDepth 100000
set_option maxHeartbeats 4000000
theorem set_sameR {α:Type} {l:List α} {i:Nat} {a:α} (h:l[i]? =some a):l.set i a=l:=by
 apply List.ext_getElem?
 intro j
 rw [List.getElem?_set]
 split
 ·rename_i hij
  subst hij
  rw [h]
  have:=(List.getElem?_eq_some_iff.1 h).1
  simp [this]
 ·rfl
end Go.Proofs.YteabebmlclgakaaGreat
/- Job5: the table of jobs: which tier is live. -/
namespace Go.Proofs.YteabebmlclgakaaGreat
open Go.RowKit
set_option maxRecDepth 100000
set_option maxHeartbeats 4000000
end Go.Proofs.YteabebmlclgakaaGreat
/- Job6: the table of jobs: what an evicted transaction makes of it. -/
namespace Go.Proofs.YteabebmlclgakaaGreat
open Go.RowKit
set_option maxRecDepth 100000
set_option maxHeartbeats 4000000
end Go.Proofs.YteabebmlclgakaaGreat
/- Job7: the table of jobs: Evict. -/
namespace Go.Proofs.YteabebmlclgakaaGreat
open Go.RowKit
set_option maxRecDepth 100000
set_option maxHeartbeats 4000000
end Go.Proofs.YteabebmlclgakaaGreat
/- SendP: what is sent out of jobs, and what is live behind it. No program in sight. -/
namespace Go.Proofs.YteabebmlclgakaaGreat
open Go.RowKit
set_option maxRecDepth 100000
set_option maxHeartbeats 2000000
def dueP (j:JobP) (ht:UInt32) (step:Int):Option Nat:=
 if j.mined.toNat≠0∨j.tiers.length=0∨(tierAt j.height.toNat ht.toNat step j.tiers.length:Int)=j.live then none else some (tierAt j.height.toNat ht.toNat step j.tiers.length)
theorem dueN_p (j:Job) (ht:UInt32) (step:Int):dueN j ht step=dueP j.p ht step:=by
 unfold dueN dueP Job.p
 simp only [List.length_map]
def subO (ht:UInt32) (step:Int) (j:JobP):Option SubP:=match dueP j ht step with
 |none=>none
 |some n=>match j.tiers[n]? with
  |none=>none
  |some t=>some ⟨j.key,j.breach,ht,n,t.2⟩
def sentJ (ht:UInt32) (step:Int) (j:JobP):JobP:=match dueP j ht step with
 |none=>j
 |some n=>{j with live:=n}
def subsP (ht:UInt32) (step:Int) (l:List JobP):List SubP:=l.filterMap (subO ht step)
def sentP (ht:UInt32) (step:Int) (l:List JobP):List JobP:=l.map (sentJ ht step)
theorem dueP_lt {j:JobP} {ht:UInt32} {step:Int} {n:Nat} (h:dueP j ht step=some n):n < j.tiers.length∧j.mined.toNat=0∧n=tierAt j.height.toNat ht.toNat step j.tiers.length:=by
 unfold dueP at h
 split at h
 ·cases h
 ·cases h
  exact ⟨tierAt_lt (by omega),by omega,rfl⟩
theorem dueP_sent (j:JobP) (ht:UInt32) (step:Int):dueP (sentJ ht step j) ht step=none:=by
 unfold sentJ
 cases h:dueP j ht step with
 |none=>exact h
 |some n=>
  obtain ⟨h1,h2,h3⟩:=dueP_lt h
  unfold dueP
  exact if_pos (.inr (.inr (by show (tierAt j.height.toNat ht.toNat step j.tiers.length:Int)=(n:Int);rw [h3])))
theorem subO_none {j:JobP} {ht:UInt32} {step:Int} (h:dueP j ht step=none):subO ht step j=none:=by unfold subO;rw [h]
theorem sentJ_none {j:JobP} {ht:UInt32} {step:Int} (h:dueP j ht step=none):sentJ ht step j=j:=by unfold sentJ;rw [h]
theorem subO_some {j:JobP} {ht:UInt32} {step:Int} {n:Nat} {t:UInt32×List UInt8} (h:dueP j ht step=some n) (ht':j.tiers[n]? =some t):subO ht step j=some ⟨j.key,j.breach,ht,n,t.2⟩:=by unfold subO;rw [h];dsimp only;rw [ht']
theorem duePost_no {j:Job} {ht:UInt32} {step:Int} {w0:World} {e:Ending} {w':World} (h:DuePost j ht step w0 e w') (hd:dueP j.p ht step=none):e= .returned (.tuple #[Sub.z.v, .bool false])∧Chg N0 w0 w':=by
 rcases h with ⟨_,h1,h2⟩|⟨n,t,s,h1,_⟩
 ·exact ⟨h1,h2⟩
 ·rw [dueN_p,hd] at h1
  cases h1
theorem duePost_yes {j:Job} {ht:UInt32} {step:Int} {w0:World} {e:Ending} {w':World} (h:DuePost j ht step w0 e w') {n:Nat} (hd:dueP j.p ht step=some n):∃z:Sub,subO ht step j.p=some z.p∧z.tier=n∧e= .returned (.tuple #[z.v, .bool true])∧Made (stxR z) w0 w':=by
 rcases h with ⟨h1,_⟩|⟨m,t,s,h1,htt,hs,h2,h3⟩
 ·rw [dueN_p,hd] at h1
  cases h1
 ·rw [dueN_p,hd] at h1
  cases h1
  refine ⟨⟨j.key,j.breach,ht,n,s⟩,?_,rfl,h2,h3⟩
  rw [subO_some (t:=tk t) hd (by show (j.pay.l.map tk)[n]? =_;rw [List.getElem?_map,htt];rfl)]
  show some (SubP.mk _ _ _ _ t.tx.l)=some (SubP.mk _ _ _ _ s.l)
  rw [hs]
  rfl
end Go.Proofs.YteabebmlclgakaaGreat
/- StabP: Go's stable sort without program: lists put together by insertion, merged by turning; what comes is sorted, and a permutation. No condition. -/
namespace Go.Proofs.YteabebmlclgakaaGreat
set_option maxHeartbeats 2000000
section
variable {α : Type}
theorem set_mid (A:List α) (x y:α) (C:List α):(A++x::C).set A.length y=A++y::C:=by
 rw [List.set_append_right _ _ (Nat.le_refl _),Nat.sub_self]
 rfl
theorem get_mid (A:List α) (x:α) (C:List α):(A++x::C)[A.length]? =some x:=by
 rw [List.getElem?_append_right (Nat.le_refl _),Nat.sub_self]
 rfl
theorem swap_mid (A B C:List α) (x y:α) {i j:Nat} (hi:i=A.length) (hj:j=A.length+1+B.length):((A++x::(B++y::C)).set i y).set j x=A++y::(B++x::C):=by
 subst hi
 rw [set_mid,show A++y::(B++y::C)=(A++y::B)++y::C by simp,show j=(A++y::B).length by simp;omega,set_mid]
 simp
theorem swap_rev (A B C:List α) (x y:α) {i j:Nat} (hi:i=A.length+1+B.length) (hj:j=A.length):((A++x::(B++y::C)).set i x).set j y=A++y::(B++x::C):=by
 subst hj
 rw [show A++x::(B++y::C)=(A++x::B)++y::C by simp,show i=(A++x::B).length by simp;omega,set_mid,show (A++x::B)++x::C=A++x::(B++x::C) by simp,set_mid]
theorem cut_at {l:List α} {n:Nat} (h:n≤l.length):∃A B,l=A++B∧A.length=n:=⟨l.take n,l.drop n,(List.take_append_drop n l).symm,by rw [List.length_take];omega⟩
theorem cut_last {l:List α} (h:0 < l.length):∃A x,l=A++ [x]:=⟨l.dropLast,l.getLast (List.ne_nil_of_length_pos h),(List.dropLast_concat_getLast _).symm⟩
theorem cut_head {l:List α} (h:0 < l.length):∃x A,l=x::A:=by
 cases l with
 |nil=>cases h
 |cons x A=>exact ⟨x,A,rfl⟩
variable {cf : α → α → Int}
def leC (cf:α→α→Int) (x y:α):Prop:=¬cf y x < 0
structure CmpOk (cf:α→α→Int):Prop where
 asym:∀x y,cf x y < 0→¬cf y x < 0
 trans:∀x y z,leC cf x y→leC cf y z→leC cf x z
abbrev Srt (cf:α→α→Int) (l:List α):Prop:=l.Pairwise (leC cf)
theorem srt_last {A:List α} {x:α} (h:Srt cf (A++ [x])) (hc:CmpOk cf) {y:α} (hy:leC cf x y):∀z∈A++ [x],leC cf z y:=fun z hz=>by
 rcases List.mem_append.1 hz with h1|h1
 ·exact hc.trans _ _ _ ((List.pairwise_append.1 h).2.2 z h1 x (List.mem_singleton_self x)) hy
 ·obtain rfl:=List.mem_singleton.1 h1
  exact hy
theorem srt_head {A:List α} {x:α} (h:Srt cf (x::A)) (hc:CmpOk cf) {y:α} (hy:leC cf y x):∀z∈x::A,leC cf y z:=fun z hz=>by
 rcases List.mem_cons.1 hz with rfl|h1
 ·exact hy
 ·exact hc.trans _ _ _ hy ((List.pairwise_cons.1 h).1 z h1)
theorem srt_meet (hc:CmpOk cf) {X Y:List α} (hX:Srt cf X) (hY:Srt cf Y) (h:∀x y,X.getLast? =some x→Y.head? =some y→leC cf x y):∀x∈X,∀y∈Y,leC cf x y:=by
 intro x hx y hy
 obtain ⟨A,a,rfl⟩:=cut_last (List.length_pos_of_mem hx)
 obtain ⟨b,B,rfl⟩:=cut_head (List.length_pos_of_mem hy)
 have h1:=h a b (by simp) rfl
 have h2:=srt_head hY hc h1 y hy
 exact srt_last hX hc h2 x hx
theorem srt_join (hc:CmpOk cf) {X Y:List α} (hX:Srt cf X) (hY:Srt cf Y) (h:∀x y,X.getLast? =some x→Y.head? =some y→leC cf x y):Srt cf (X++Y):=List.pairwise_append.2 ⟨hX,hY,srt_meet hc hX hY h⟩
theorem srt_put (hc:CmpOk cf) {X Y:List α} {x:α} (hXY:Srt cf (X++Y)) (h1:∀a,X.getLast? =some a→leC cf a x) (h2:∀b,Y.head? =some b→leC cf x b):Srt cf (X++x::Y):=by
 obtain ⟨hX,hY,hxy⟩:=List.pairwise_append.1 hXY
 have h3:Srt cf (x::Y):=srt_join (X:= [x]) hc (List.pairwise_singleton _ _) hY fun a b ha hb=>by
  obtain rfl:x=a:=by simpa using ha
  exact h2 b hb
 exact srt_join hc hX h3 fun a b ha hb=>by
  obtain rfl:x=b:=by simpa using hb
  exact h1 a ha
theorem srt_sym (hc:CmpOk cf) {X1 X2 Y1 Y2 M1 M2:List α} (hX:Srt cf (X1++X2)) (hY:Srt cf (Y1++Y2))
  (h1:∀x y,X1.getLast? =some x→Y2.head? =some y→leC cf x y) (h2:∀x y,Y1.getLast? =some y→X2.head? =some x→leC cf y x)
  (p1:M1.Perm (X1++Y1)) (p2:M2.Perm (X2++Y2)) (s1:Srt cf M1) (s2:Srt cf M2):Srt cf (M1++M2)∧(M1++M2).Perm ((X1++X2)++(Y1++Y2)):=by
 obtain ⟨a1,a2,a3⟩:=List.pairwise_append.1 hX
 obtain ⟨b1,b2,b3⟩:=List.pairwise_append.1 hY
 refine ⟨List.pairwise_append.2 ⟨s1,s2,fun x hx y hy=>?_⟩,?_⟩
 ·have hx:=p1.mem_iff.1 hx
  have hy:=p2.mem_iff.1 hy
  rcases List.mem_append.1 hx with hx|hx<;>rcases List.mem_append.1 hy with hy|hy
  ·exact a3 x hx y hy
  ·exact srt_meet hc a1 b2 h1 x hx y hy
  ·exact srt_meet hc b1 a2 (fun y x hy hx=>h2 x y hy hx) x hx y hy
  ·exact b3 x hx y hy
 ·refine (p1.append p2).trans ?_
  rw [List.append_assoc,List.append_assoc]
  refine List.Perm.append_left X1 ?_
  rw [←List.append_assoc,←List.append_assoc]
  exact List.Perm.append_right Y2 List.perm_append_comm
inductive Chk (cf:α→α→Int) (n:Nat):List α→Prop
 |last (l:List α):l.length≤n→Srt cf l→Chk cf n l
 |cons (x l:List α):x.length=n→Srt cf x→Chk cf n l→Chk cf n (x++l)
theorem Chk.nil {n:Nat}:Chk cf n []:= .last [] (Nat.zero_le _) .nil
theorem Chk.big {n:Nat} {R:List α} (h:Chk cf n R) (hl:n≤R.length):∃x R',R=x++R'∧x.length=n∧Srt cf x∧Chk cf n R':=by
 cases h with
 |last _ h1 h2=>exact ⟨R, [],(List.append_nil R).symm,by omega,h2, .nil⟩
 |cons x l h1 h2 h3=>exact ⟨x,l,rfl,h1,h2,h3⟩
theorem Chk.small {n:Nat} {R:List α} (h:Chk cf n R) (hl:R.length≤n):Srt cf R:=by
 cases h with
 |last _ h1 h2=>exact h2
 |cons x l h1 h2 h3=>
  rw [List.length_append] at hl
  rw [List.eq_nil_of_length_eq_zero (show l.length=0 by omega),List.append_nil]
  exact h2
def Ful (cf:α→α→Int) (n:Nat) (D:List α):Prop:=∀R,Chk cf n R→Chk cf n (D++R)
theorem Ful.nil {n:Nat}:Ful cf n []:=fun _ h=>h
theorem Ful.snoc {n:Nat} {D x:List α} (h:Ful cf n D) (hl:x.length=n) (hs:Srt cf x):Ful cf n (D++x):=fun R hR=>by
 rw [List.append_assoc]
 exact h _ (.cons x R hl hs hR)
end
end Go.Proofs.YteabebmlclgakaaGreat
