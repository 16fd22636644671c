/- MImprintBytes25: parts of the proof of ImprintBytes: Job2, HintHK, SixKey, HintHK2, HintHK3. No condition of their own. -/
import Derived.Test.YtpbapnlnheahnaaGreatDoorMImprintBytes16
import Derived.Test.YtpbapnlnheahnaaGreatDoorMImprintBytes11
set_option linter.unusedSimpArgs false
set_option linter.unusedVariables false
namespace Go.Proofs.YtpbapnlnheahnaaGreatDoor
open Go.RowKit
set_option maxRecDepth 100000
set_option maxHeartbeats 2000000
theorem rd_pneq {P:Program} {ρ:Operand→Value} {o:Oper} {w:World} {g:Value→Prop} {t t2 e:TypeId} {x y:Operand} (hop:o.op= .binOp .neq t x y t2) {a:Option Addr} (hx:ρ x= .pointer a) (hy:ρ y= .pointer none) (ht:P.underlying t=some (.pointer e)) {q:Bool} (hq:(!a.isNone)=q) (hk:g (.bool q)):Rd P ρ o w g:=by
 subst hq
 refine ⟨_,fun w' _=>?_,hk⟩
 have hg:eqGuard .neq t x y (ρ x) (ρ y)=pure ():=by rw [hx];exact eqGuard_at_pointer ..
 have h':=(run_eql_of (P:=P) (w:=w') (t:=t) (eqIn_ptr 9999 ht a) (fun op=>by cases op<;>rfl)).2
 rw [hx,hy] at hg
 simp only [execOp,hop,hx,hy,hg,Sem.run_bind,Sem.run_pure,Result.andThen_ok,h']
structure PayOut (S:Nat→Prop) (B:Nat) (w:World) (p:Payload):Prop where
 row:SlOut S B w Tier.c 2 p
 tx:∀t∈p.l,SlOut S B w u8L 1 t.tx
theorem PayOut.keep {S:Nat→Prop} {B:Nat} {w w':World} {p:Payload} (h:PayOut S B w p) (hc:Chg S w w'):PayAt B w' p:=⟨h.row.keep hc,fun t ht=>(h.tx t ht).keep hc⟩
theorem ol_new {l:List (Key×EntB)} {k:Key} {x:EntB} (h:l.lookup k=none):mput (ol l) k (some x)=ol (l++ [(k,x)]):=by
 have hn:k∉(ol l).map (·.1):=by
  rw [ol_keys]
  intro hm
  obtain ⟨p,hp,hk⟩:=List.mem_map.1 hm
  rw [List.lookup_eq_none_iff] at h
  have:=h p hp
  rw [bne_iff_ne] at this
  exact this hk.symm
 unfold mput
 rw [if_neg hn]
 simp [ol]
def jaddE (l:List (Key×EntB)) (j:Job):Int:=if rightJ j=false then 1 else if (l.lookup j.key).isSome=true then 6 else 0
theorem JtI.add {ord:List Key} {l:List (Key×EntB)} (h:JtI ord l) {j:Job} {x:EntB} {r:Payload} (hl:l.lookup j.key=none) (hr:rightJ j=true) (hrp:r.l.map tk=j.pay.l.map tk) (hx:x.job={j with pay:=r}) (hi:x.ids.l=idsP j.pay) (hrr:rightJ {j with pay:=r}=true) (hii:idsP r=idsP j.pay):JtI (ord++ [j.key]) (l++ [(j.key,x)]):=by
 have hn:j.key∉l.map (·.1):=by
  intro hm
  obtain ⟨p,hp,hk⟩:=List.mem_map.1 hm
  rw [List.lookup_eq_none_iff] at hl
  have:=hl p hp
  rw [bne_iff_ne] at this
  exact this hk.symm
 refine ⟨by rw [h.ord];simp,?_,?_,?_,?_⟩
 ·rw [List.map_append,List.nodup_append]
  refine ⟨h.nd,by simp,fun a ha b hb=>?_⟩
  simp at hb
  subst hb
  exact fun e=>hn (e▸ha)
 all_goals
  intro p hp
  rcases List.mem_append.1 hp with hp|hp
 ·exact h.key p hp
 ·simp at hp;subst hp;rw [hx]
 ·exact h.right p hp
 ·simp at hp;subst hp;rw [hx];exact hrr
 ·exact h.ids p hp
 ·simp at hp;subst hp;rw [hx,hi,hii]
theorem ids_congr {p q:Payload} (h:p.l.map tk=q.l.map tk):idsP p=idsP q:=by
 have e:∀l:List Tier,(l.map fun t=>shaV t.tx.l)=(l.map tk).map fun x=>shaV x.2:=fun l=>by rw [List.map_map];rfl
 show (p.l.map fun t=>shaV t.tx.l)=q.l.map fun t=>shaV t.tx.l
 rw [e,e,h]
theorem tierOk_congr {l m:List Tier} (h:l.map tk=m.map tk) (i:Nat):tierOk l i=tierOk m i:=by
 have hg:∀j,(l[j]?).map tk=(m[j]?).map tk:=fun j=>by rw [←List.getElem?_map,←List.getElem?_map,h]
 have e:∀l:List Tier,tierOk l i=(match (l[i]?).map tk with
   |some t=>decide (1≤t.2.length∧t.2.length≤64) && (match i with
    |0=>true
    |k+1=>match (l[k]?).map tk with
     |some s=>decide (s.1.toNat < t.1.toNat)
     |none=>true)
   |none=>true):=fun l=>by
  unfold tierOk
  cases l[i]? with
  |none=>rfl
  |some t=>
   cases i with
   |zero=>rfl
   |succ k=>
    dsimp only [Option.map_some]
    cases l[k]? <;>rfl
 rw [e,e,hg]
 cases i with
 |zero=>rfl
 |succ k=>dsimp only;rw [hg]
theorem rightP_congr {p q:Payload} (h:p.l.map tk=q.l.map tk):rightP p=rightP q:=by
 have hl:p.l.length=q.l.length:=by have:=congrArg List.length h;simpa using this
 unfold rightP
 rw [hl]
 congr 1
 refine congrArg (fun f=>(List.range q.l.length).all f) (funext fun i=>tierOk_congr h i)
theorem rightJ_congr {j:Job} {r:Payload} (h:r.l.map tk=j.pay.l.map tk):rightJ {j with pay:=r}=rightJ j:=by
 have hl:r.l.length=j.pay.l.length:=by have:=congrArg List.length h;simpa using this
 unfold rightJ
 rw [rightP_congr (p:=r) (q:=j.pay) h]
 show (rightP j.pay && decide (_∧_∧j.live < (r.l.length:Int)∧_))=_
 rw [hl]
theorem Hp.fold3 {S:Nat→Prop} {w0 w:World} {a c:Res} {P rest:List Res} (h:Hp S w0 w (a::c::star P::rest)):Hp S w0 w (star (a::c::P)::rest):=by
 have h1:Hp S w0 w (P++(a::c::rest)):=(h.perm (((List.Perm.swap ..).cons _).trans (.swap ..))).unfold
 have h2:Hp S w0 w ((a::c::P)++rest):=h1.perm (List.perm_middle.trans (List.perm_middle.cons _))
 have h3:=h2.fold (a::c::P).length
 rwa [List.take_left,List.drop_left] at h3
theorem Hp.tail_swap {S:Nat→Prop} {w0 w:World} {a c:Res} {rest:List Res} (h:Hp S w0 w (a::c::rest)):Hp S w0 w (a::rest):=(h.perm (.swap ..)).tail
theorem jadd_any {B:Nat} {w0:World} {b m:Nat} {ord:Sl Key} {l:List (Key×EntB)} (h:(star (jtRs b m ord l)).ok w0) (hI:JtI ord.l l) (hmany:l.length≤100000) {j:Job} (hj:PayOut (star (jtRs b m ord l)).dom B w0 j.pay) (hBw:B≤w0.heap.size) (hlv: -9223372036854775808≤j.live∧j.live≤9223372036854775807):
  Calls Tryz.prog 143 #[ptr b,j.v] w0 fun e w'=>∃ord' l',e= .returned (i64 (jaddE l j))∧JtI ord'.l l'∧(jaddE l j≠0→l'=l)∧(jaddE l j=0→∃x:EntB,l'=l++ [(j.key,x)]∧x.job.p=j.p)∧Mut (star (jtRs b m ord l)) (star (jtRs b m ord' l')) w0 w':=by
 have hp:=Hp.open h
 have hT:=jtAt h
 have um:=Tryz.underlying217
 have up:=Tryz.underlying268
 have hJ:∀{w:World},Chg (star (jtRs b m ord l)).dom w0 w→Calls Tryz.prog 165 #[j.v] w fun e w'=>e= .returned (.bool (rightJ j))∧Chg N0 w w':=fun hc=>jright_any (hj.keep hc) hlv
 obtain ⟨q,hq⟩:∃q,rightJ j=q:=⟨_,rfl⟩
 rw [hq] at hJ
 cases q with
 |false=>
  have hE:jaddE l j=1:=if_pos hq
  rw [hE]
  refine calls_x (args:= [_,_]) tabOk Tryz.func143 Tryz.ntmps143 Tryz.results143 rfl (Nat.le_of_ble_eq_true rfl) ?_
  ((conv=>whnf);repeat' ((first|((with_reducible apply br_id);first|with_reducible refine br_f ?_|with_reducible refine br_not ?_)|((with_reducible apply ldn_id);apply lda_hs hp;(focus repeat' constructor);exact rfl)|((with_reducible apply al_id);refine al_cel hp ?_;clear hp;intro bb w hp)|((with_reducible apply cl_id);first|((refine cl_eq ((jabsent_any (cell_of_heap (hp.cel_get (j:=1) rfl) rfl))) rfl rfl ?_;rintro e w ⟨rfl,hcc⟩;replace hp:=hp.call0 hcc;refine ⟨_,rfl,?_⟩))|((refine cl_eq ((hJ hp.chg)) rfl rfl ?_;rintro e w ⟨rfl,hcc⟩;replace hp:=hp.call0 hcc;refine ⟨_,rfl,?_⟩))))<;>(conv=>whnf)))
  exact ps_val (v':=i64 1) rfl ⟨ord,l,rfl,hI,fun _=>rfl,fun hh=>absurd hh (by decide),hp.tail.shut (.refl _)⟩
 |true=>
 have hne:¬rightJ j=false:=by rw [hq];simp
 cases hlk:l.lookup j.key with
 |some x=>
  have hE:jaddE l j=6:=by unfold jaddE;rw [if_neg hne,hlk];rfl
  rw [hE]
  have hv:((ol l).lookup j.key).getD none=some x:=by rw [(ol_lookup _ _).1,hlk]
  refine calls_x (args:= [_,_]) tabOk Tryz.func143 Tryz.ntmps143 Tryz.results143 rfl (Nat.le_of_ble_eq_true rfl) ?_
  ((conv=>whnf);repeat' ((first|((with_reducible apply br_id);first|with_reducible refine br_t ?_|with_reducible refine br_f ?_|with_reducible refine br_not ?_)|((with_reducible apply ld_id);apply ld_hs hp;(focus repeat' constructor);exact rfl)|((with_reducible apply ldn_id);first|(apply lda_hs hp;(focus repeat' constructor);exact rfl)|(apply ldn_hs hp;(focus repeat' constructor);exact rfl;exact rfl))|((with_reducible apply al_id);refine al_cel hp ?_;clear hp;intro bb w hp)|((with_reducible apply dr_id);refine dr_auto tabOk (by kernel_rfl) (by decide+kernel) ?_;(try replace hp:=hp.drew))|((with_reducible apply cl_id);first|((refine cl_eq ((jabsent_any (cell_of_heap (hp.cel_get (j:=1) rfl) rfl))) rfl rfl ?_;rintro e w ⟨rfl,hcc⟩;replace hp:=hp.call0 hcc;refine ⟨_,rfl,?_⟩))|((refine cl_eq ((hJ hp.chg)) rfl rfl ?_;rintro e w ⟨rfl,hcc⟩;replace hp:=hp.call0 hcc;refine ⟨_,rfl,?_⟩)))|((with_reducible apply rd_id);first|(refine rd_lookM rfl (mapR_ok.1 (hp.get (j:=2) rfl)) rfl keyK um (z:=none) rfl j.key rfl hv ?_)|(refine rd_pneq (q:=true) rfl rfl rfl up rfl ?_)))<;>(conv=>whnf)))
  exact ps_val (v':=i64 6) rfl ⟨ord,l,rfl,hI,fun _=>rfl,fun hh=>absurd hh (by decide),hp.tail.shut (.refl _)⟩
 |none=>
  have hE:jaddE l j=0:=by unfold jaddE;rw [if_neg hne,hlk];rfl
  rw [hE]
  have hv:((ol l).lookup j.key).getD none=none:=by rw [(ol_lookup _ _).1,hlk]
  have hf:=rightP_few (rightJ_pay hq)
  refine calls_x (args:= [_,_]) tabOk Tryz.func143 Tryz.ntmps143 Tryz.results143 rfl (Nat.le_of_ble_eq_true rfl) ?_
  ((conv=>whnf);repeat' ((first|((with_reducible apply br_id);first|with_reducible refine br_t ?_|with_reducible refine br_f ?_|with_reducible refine br_not ?_)|((with_reducible apply ld_id);apply ld_hs hp;(focus repeat' constructor);exact rfl)|((with_reducible apply ldn_id);first|(apply lda_hs hp;(focus repeat' constructor);exact rfl)|(apply ldn_hs hp;(focus repeat' constructor);exact rfl;exact rfl))|((with_reducible apply al_id);refine al_cel hp ?_;clear hp;intro bb w hp)|((with_reducible apply dr_id);first|(refine dr_auto tabOk (by kernel_rfl) (by decide+kernel) ?_;(try replace hp:=hp.drew))|(refine dr_autog tabOk (by kernel_rfl) (by decide+kernel) ?_;(try replace hp:=hp.drew)))|((with_reducible apply cl_id);first|((refine cl_eq ((jabsent_any (cell_of_heap (hp.cel_get (j:=1) rfl) rfl))) rfl rfl ?_;rintro e w ⟨rfl,hcc⟩;replace hp:=hp.call0 hcc;refine ⟨_,rfl,?_⟩))|((refine cl_eq ((hJ hp.chg)) rfl rfl ?_;rintro e w ⟨rfl,hcc⟩;replace hp:=hp.call0 hcc;refine ⟨_,rfl,?_⟩)))|((with_reducible apply rd_id);first|(refine rd_lookM rfl (mapR_ok.1 (hp.get (j:=2) rfl)) rfl keyK um (z:=none) rfl j.key rfl hv ?_)|(refine rd_pneq (q:=false) rfl rfl rfl up rfl ?_)))<;>(conv=>whnf)))
  refine cl_eq (jown_any (hj.keep hp.chg) (Nat.le_trans hBw hp.chg.size) hf) rfl rfl ?_
  rintro e w ⟨r,hr,rfl,hm⟩
  replace hp:=hp.add hm
  replace hm:=hm.chg
  refine ⟨_,rfl,?_⟩
  ((conv=>whnf);repeat' (((with_reducible apply cn_id);refine cn ‹_› ?_)<;>(conv=>whnf)))
  obtain ⟨b3,hb3⟩:∃y:Nat,y=bb:=⟨_,rfl⟩
  subst hb3
  refine cl_eq (ids_any (hj.keep hp.chg) (Nat.le_trans hBw hp.chg.size) hf) rfl rfl ?_
  rintro e w ⟨ids,hids,rfl,hm2⟩
  replace hp:=hp.add hm2
  replace hm2:=hm2.chg
  refine ⟨_,rfl,?_⟩
  ((conv=>whnf);repeat' ((first|((with_reducible apply cn_id);refine cn ‹_› ?_)|((with_reducible apply al_id);refine al_cel hp ?_;clear hp;intro bb w hp)|((with_reducible apply gen_id);first|(refine gen_build (t:=272) (out:=(EntB.c ⟨0,{j with pay:=r},ids⟩)) rfl (by kernel_rfl) ?_)|((refine gen_put rfl hp 5 rfl rfl keyK um (j.key) rfl ((some (EntB.mk bb {j with pay:=r} ids))) rfl ?_);clear hp;intro w hp)))<;>(conv=>whnf)))
  obtain ⟨x,hx⟩:∃x:EntB,x=⟨bb,{j with pay:=r},ids⟩:=⟨_,rfl⟩
  have hxb:bb=x.b:=by rw [hx]
  have hxj:x.job={j with pay:=r}:=by rw [hx]
  have hxi:x.ids=ids:=by rw [hx]
  have hxc:(EntB.c ⟨0,{j with pay:=r},ids⟩)=EntB.c x:=by rw [hx]
  have hxr:payRs r=payRs x.job.pay:=by rw [hx]
  rw [←hx,ol_new hlk,hxc,hxr,hxb,←hxi] at hp
  have hol:ord.l.length≤100000:=by rw [hI.ord,List.length_map];exact hmany
  have hro:rightJ {j with pay:=r}=true:=by rw [rightJ_congr hr];exact hq
  have hJI:=hI.add hlk hq hr hxj (by rw [hxi];exact hids) hro (ids_congr hr)
  have hpx:x.job.p=j.p:=by rw [hxj];simp [Job.p,hr]
  clear hx hxb hxj hxc hxr hm hm2 hids hxi
  dsimp only [List.set] at hp
  ((conv=>whnf);repeat' ((first|((with_reducible apply cn_id);refine cn rfl ?_)|((with_reducible apply ld_id);apply ld_hs hp;(focus repeat' constructor);exact rfl)|((with_reducible apply ldn_id);apply ldn_hs hp;(focus repeat' constructor);exact rfl;exact rfl)|((with_reducible apply st_id);apply st_hs hp;(focus repeat' constructor);exact rfl;exact rfl;clear hp;intro w hp;(try dsimp only [List.set] at hp))|((with_reducible apply gen_id);first|((refine gen_bs rfl hp el_key Key.c [j.key] [j.key.v] rfl rfl rfl (fun _ hh=>by simp at hh;subst hh;rfl) (by omega) ?_);clear hp;intro br w hp)|((refine gen_app (s:=ord) rfl hp 7 rfl el_key rfl ⟨some ⟨br,0,none⟩,1, [j.key]⟩ rfl (hp.row (j:=0) rfl) (fun _ _=>rfl) key_one (by simp only [List.length_cons,List.length_nil];omega) (by simp only [maxLen,List.length_cons,List.length_nil];omega) ?_);clear hp;intro A2 c2 w hp;dsimp only [List.set] at hp))|((with_reducible apply dr_id);refine dr_auto tabOk (by kernel_rfl) (by decide+kernel) ?_;(try replace hp:=hp.drew)))<;>(conv=>whnf)))
  refine ps_val (v':=i64 0) rfl ⟨⟨A2,c2,ord.l++ [j.key]⟩,l++ [(j.key,x)],rfl,hJI,fun hh=>absurd rfl hh,fun _=>⟨x,rfl,hpx⟩,?_⟩
  have h1:=hp.tail.fold3.tail_swap
  have h2:(l++ [(j.key,x)]).map jentR=l.map jentR++ [jentR (j.key,x)]:=List.map_append
  refine (h1.perm ?_).shut (.refl _)
  unfold jtRs
  rw [h2]
  exact (List.perm_append_singleton _ (_::_::_::l.map jentR)).symm
abbrev iRsHK (b m:Nat) (l:List (Hint×Sl Key)) (n:Int):List Res:=idxRs 258 54 2 Hint.v Key.c b m l n
theorem inoneHK {w0:World} {b m:Nat} (hc:w0.cell? ⟨b,0,none⟩=some (.map (some m))):Calls Tryz.prog 172 #[ptr b] w0 fun e w'=>e= .returned (.bool false)∧Chg N0 w0 w':=by
 have hp:=Hp.start (S:=N0) w0
 refine calls_x (args:= [_]) tabOk Tryz.func172 Tryz.ntmps172 Tryz.results172 rfl (Nat.le_of_ble_eq_true rfl) ?_
 ((conv=>whnf);repeat' ((first|((with_reducible apply br_id);with_reducible refine br_f ?_)|((with_reducible apply ld_id);(refine ld_of (hp.chg.cell0 hc) ?_)))<;>(conv=>whnf)))
 exact ps_val (v':= .bool false) rfl ⟨rfl,hp.chg⟩
theorem inewHK {w0:World}:Calls Tryz.prog 132 #[] w0 fun e w'=>∃b m,e= .returned (ptr b)∧Made (star (iRsHK b m [] 0)) w0 w':=by
 have hp:=Hp.start (S:=N0) w0
 refine calls_x (args:= []) tabOk Tryz.func132 Tryz.ntmps132 Tryz.results132 rfl (Nat.le_of_ble_eq_true rfl) ?_
 ((conv=>whnf);repeat' ((first|((with_reducible apply al_id);refine al_cel hp ?_;clear hp;intro bb w hp)|((with_reducible apply gen_id);first|((refine gen_mmake rfl Hint.v (Sl.v (α:=Key)) hp ?_);clear hp;intro bb w hp)|(apply gen_build;exact rfl;exact rfl)))<;>(conv=>whnf)))
 exact ps_of ⟨_,_,rfl,hp.made (.refl _)⟩
theorem iatHK {w0:World} {b m:Nat} {l:List (Hint×Sl Key)} {n:Int} (h:IdxAt Hint.v Key.c 2 w0 b m l n) (k:Hint) (hn:(idx l k).l.length≤1000000):Calls Tryz.prog 187 #[ptr b,Hint.v k] w0 fun e w'=>∃r:Sl Key,r.l=(idx l k).l∧e= .returned r.v∧Made (rowR 54 2 Key.c r) w0 w':=by
 have hp:=Hp.start (S:=N0) w0
 have hB:∀b,N0 b→w0.heap.size≤b:=fun _ hh=>hh.elim
 have hsa:=h.idx k
 obtain ⟨s,hs⟩:∃s,idx l k=s:=⟨_,rfl⟩
 rw [hs] at hn hsa ⊢
 refine calls_x (args:= [_,_]) tabOk Tryz.func187 Tryz.ntmps187 Tryz.results187 rfl (Nat.le_of_ble_eq_true rfl) ?_
 ((conv=>whnf);repeat' ((first|((with_reducible apply br_id);with_reducible refine br_f ?_)|((with_reducible apply ld_id);(refine ld_of (hp.chg.cell0 h.c0) ?_))|((with_reducible apply ldn_id);apply lda_hs hp;(focus repeat' constructor);exact rfl)|((with_reducible apply al_id);refine al_cel hp ?_;clear hp;intro bb w hp)|((with_reducible apply gen_id);(refine gen_app0 rfl hp el_key rfl s rfl (hsa.keep hp.chg hB) (fun _ _=>rfl) key_one (by omega) (by simp only [maxLen];omega) ?_);clear hp;intro A1 c1 w hcc hp)|((with_reducible apply dr_id);refine dr_auto tabOk (by kernel_rfl) (by decide+kernel) ?_;(try replace hp:=hp.drew))|((with_reducible apply cl_id);(refine cl_eq ((inoneHK (hp.chg.cell0 h.c0))) rfl rfl ?_;rintro e w ⟨rfl,hcc⟩;replace hp:=hp.call0 hcc;refine ⟨_,rfl,?_⟩))|((with_reducible apply rd_id);(refine rd_lookM rfl (h.map.keep0 hp.chg) rfl hintK Tryz.underlying256 (z:=Sl.nil) rfl k rfl hs ?_)))<;>(conv=>whnf)))
 exact ps_val (v':= .slice A1 s.l.length c1) rfl ⟨⟨A1,c1,s.l⟩,rfl,rfl,hp.made1 (j:=0) rfl⟩
theorem ieachHK {w0:World} (b:Nat) (k:Hint):Calls Tryz.prog 183 #[ptr b,Hint.v k] w0 fun e w'=>∃b2 b3,e= .returned (.func (.func 186) #[] #[ptr b2,ptr b3])∧Made (star [cel b3 44 (Hint.c k).toArray,cel b2 210 #[ptr b]]) w0 w':=by
 have hp:=Hp.start (S:=N0) w0
 refine calls_x (args:= [_,_]) tabOk Tryz.func183 Tryz.ntmps183 Tryz.results183 rfl (Nat.le_of_ble_eq_true rfl) ?_
 ((conv=>whnf);repeat' ((first|((with_reducible apply al_id);refine al_cel hp ?_;clear hp;intro bb w hp)|((with_reducible apply gen_id);(refine gen_mkf rfl rfl ?_)))<;>(conv=>whnf)))
 exact ps_of ⟨_,_,rfl,hp.made (.refl _)⟩
abbrev iEachHK (b b2 b3:Nat) (k:Hint):List Res:= [cel b3 44 (Hint.c k).toArray,cel b2 210 #[ptr b]]
theorem iiterHK {w0:World} {b m b2 b3:Nat} {l:List (Hint×Sl Key)} {n:Int} {k:Hint} (h:(star (iRsHK b m l n)).ok w0) (h3:(cel b3 44 (Hint.c k).toArray).ok w0) (h2:(cel b2 210 #[ptr b]).ok w0) (hn:(idx l k).l.length≤1000000):
  Iter Tryz.prog (fun x=>(∃r∈iEachHK b b2 b3 k,r.dom x)∨(star (iRsHK b m l n)).dom x) 186 #[ptr b2,ptr b3] (fun v:Key=> #[Key.v v]) (idx l k).l w0:=by
 refine ⟨fun L R X r0 hR0 hR hdis hy=>?_⟩
 have hp:=Hp.start1 hR
 have hx2:¬r0.dom b2:=fun hh=>hdis _ hh (.inl ⟨_,List.mem_cons_of_mem _ (List.mem_cons_self ..),cel_dom.2 rfl⟩)
 have hx3:¬r0.dom b3:=fun hh=>hdis _ hh (.inl ⟨_,List.mem_cons_self ..,cel_dom.2 rfl⟩)
 have hxi:∀x,(star (iRsHK b m l n)).dom x→¬r0.dom x:=fun x hx hh=>hdis _ hh (.inr hx)
 obtain ⟨xs,hxs⟩:∃xs,(idx l k).l=xs:=⟨_,rfl⟩
 have hsat:=fun {w:World} (hc:Chg r0.dom w0 w)=>iatHK (idxAt ((star (iRsHK b m l n)).keep h hc hxi)) k hn
 rw [hxs] at hy hsat ⊢
 show Calls _ _ #[.func (.yield L) #[] #[],ptr b2,ptr b3] w0 _
 have us:=Tryz.underlying218
 refine calls_x (args:= [_,_,_]) tabOk Tryz.func186 Tryz.ntmps186 Tryz.results186 rfl (Nat.le_of_ble_eq_true rfl) ?_
 ((conv=>whnf);repeat' ((first|((with_reducible apply ld_id);(refine ld_of (hp.chg.cell (cell_of_heap (cel_ok.1 h2) rfl) hx2) ?_))|((with_reducible apply ldn_id);(refine ldn_heap (hp.chg.heap (cel_ok.1 h3) hx3) rfl ?_)))<;>(conv=>whnf)))
 refine cl_eq (hsat hp.chg) rfl rfl ?_
 rintro e w ⟨r,hr,rfl,hm⟩
 replace hp:=hp.add hm
 clear hm
 refine ⟨_,rfl,?_⟩
 subst hr
 have hmax:r.l.length≤9223372036854775807:=by have:=(hp.row (j:=0) rfl).le;have:=(hp.row (j:=0) rfl).max;simp only [maxLen] at this;omega
 ((conv=>whnf);repeat' (((with_reducible apply gen_id);apply gen_len;exact rfl;exact rfl;assumption)<;>(conv=>whnf)))
 refine lp_inv (α:=Nat) (fun i=> [(0, .func (.yield L) #[] #[]),(8,r.v),(9,i64 r.l.length),(10,i64 i)]) (fun i w=>i≤r.l.length∧∃q,R i q∧Hp r0.dom w0 w [rowR 54 2 Key.c r,q]) (fun i=>r.l.length - i) 0 (by (repeat' (first|exact trivial|(refine ⟨rfl,?_⟩)))) ⟨by omega,r0,hR0,hp⟩ ?_
 clear hp
 rintro i e0 w ⟨hi,q,hq,hp⟩
 dsimp only at hi hp ⊢
 rcases Nat.lt_or_ge i r.l.length with hlt|hge
 ·obtain ⟨bb,oo,y,hA,hbb,hrow,hyy⟩:=(hp.row (j:=0) rfl).has hlt
  ((conv=>whnf);repeat' ((first|((with_reducible apply br_id);(with_reducible refine br_dec (fun hx=>?_) (fun hx=>?_))<;>(try (exfalso;first|omega|contradiction)))|((with_reducible apply cn_id);refine cn rfl ?_)|((with_reducible apply ldn_id);first|(refine ldn_ownx hp 0 rfl ‹_› _ rfl ‹_› rfl ?_)|(apply lda_hs hp;(focus repeat' constructor);exact rfl))|((with_reducible apply al_id);refine al_cel hp ?_;clear hp;intro bb w hp)|((with_reducible apply st_id);apply sta_hs hp;(focus repeat' constructor);exact rfl;exact rfl;clear hp;intro w hp;(try dsimp only [List.set] at hp))|((with_reducible apply gen_id);(refine gen_ixs rfl rfl ‹_› rfl rfl (by omega) ?_)))<;>(conv=>whnf)))
  refine yl_of (hy i y w q hq hyy (hp.shut1 (j:=2) rfl)) rfl ?_
  rintro e w (⟨rfl,q',hq',hm⟩|⟨rfl,q',hq',hm⟩)
  ·replace hp:=hp.via (j:=2) rfl hm
   dsimp only [List.set] at hp
   refine ⟨_,rfl,?_⟩
   ((conv=>whnf);repeat' ((first|((with_reducible apply br_id);first|with_reducible refine br_t ?_|with_reducible refine br_not ?_)|((with_reducible apply ar_id);refine ar_i64 (by omega) ?_))<;>(conv=>whnf)))
   exact lp_next (i+1) (by show r.l.length - (i+1) < r.l.length - i;omega) (by (repeat' (first|exact trivial|(refine ⟨rfl,?_⟩)))) ⟨by show i+1≤_;omega,q',hq',hp.tail⟩
  ·replace hp:=hp.via (j:=2) rfl hm
   dsimp only [List.set] at hp
   refine ⟨_,rfl,?_⟩
   ((conv=>whnf);repeat' (((with_reducible apply br_id);first|with_reducible refine br_f ?_|with_reducible refine br_not ?_)<;>(conv=>whnf)))
   exact ps_of ⟨⟨_,rfl⟩, .inr ⟨i,q',hlt,hq',hp.shut1 (j:=2) rfl⟩⟩
 ·((conv=>whnf);repeat' (((with_reducible apply br_id);(with_reducible refine br_dec (fun hx=>?_) (fun hx=>?_))<;>(try (exfalso;first|omega|contradiction)))<;>(conv=>whnf)))
  have:i=r.l.length:=by omega
  subst this
  exact ps_of ⟨⟨_,rfl⟩, .inl ⟨q,hq,hp.shut1 (j:=1) rfl⟩⟩
theorem ihasHK {w0:World} {b m:Nat} {l:List (Hint×Sl Key)} {n:Int} (h:(star (iRsHK b m l n)).ok w0) (k:Hint) (v:Key) (hn:(idx l k).l.length≤1000000):Calls Tryz.prog 173 #[ptr b,Hint.v k,Key.v v] w0 fun e w'=>e= .returned (.bool (decide (v∈(idx l k).l)))∧Chg N0 w0 w':=by
 have hp:=Hp.start (S:=N0) w0
 obtain ⟨xs,hxs⟩:∃xs,(idx l k).l=xs:=⟨_,rfl⟩
 refine calls_x (args:= [_,_,_]) tabOk Tryz.func173 Tryz.ntmps173 Tryz.results173 rfl (Nat.le_of_ble_eq_true rfl) ?_
 ((conv=>whnf);repeat' ((first|((with_reducible apply ldn_id);apply lda_hs hp;(focus repeat' constructor);exact rfl)|((with_reducible apply al_id);refine al_cel hp ?_;clear hp;intro bb w hp))<;>(conv=>whnf)))
 rename_i b5 w5
 obtain ⟨rest,hp⟩:∃rest,Hp N0 w0 w (cel bb 4 #[.bool false]::cel b5 54 (Key.c v).toArray::rest):=⟨_,hp⟩
 obtain ⟨b6,hb6⟩:∃x,x=bb:=⟨_,rfl⟩
 subst hb6
 refine cl_eq (ieachHK b k) rfl rfl ?_
 rintro e w ⟨b2,b3,rfl,hm⟩
 replace hp:=(hp.add hm).unfold
 clear hm
 refine ⟨_,rfl,?_⟩
 ((conv=>whnf))
 have hst:(star (iRsHK b m l n)).ok w:=(star (iRsHK b m l n)).keep0 h hp.chg
 have hit:=fun (w1:World) (hc:Chg N0 w w1)=>iiterHK (k:=k) ((star (iRsHK b m l n)).keep0 hst hc) ((cel b3 44 (Hint.c k).toArray).keep0 (hp.get (j:=0) rfl) hc) ((cel b2 210 #[ptr b]).keep0 (hp.get (j:=1) rfl) hc) hn
 have hp2:=hp.tail.tail.sub (List.take_sublist 2 _)
 have hp3:Hp N0 w0 w (iEachHK b b2 b3 k++List.take 2 (cel b6 4 #[.bool false]::cel b5 54 (Key.c v).toArray::rest)):=hp.sub ((List.take_sublist 2 _).append_left (iEachHK b b2 b3 k))
 have hT:=iter_at (T:=(star (iRsHK b m l n)).dom) hp3 fun x hx=>⟨(star (iRsHK b m l n)).lt w0 h x hx,fun hh=>hh⟩
 rw [hxs] at hit ⊢
 refine rf_iter (es:=fun y=> [(11,Key.v y)]) (rsI:=fun i q=>(∀y∈xs.take i,y≠v)∧q= [cel b6 4 #[.bool false],cel b5 54 (Key.c v).toArray]) (rsX:=fun _ q=>v∈xs∧q= [cel b6 4 #[.bool true],cel b5 54 (Key.c v).toArray]) hp2 (by kernel_rfl) (by kernel_rfl) rfl (enters tabOk (by kernel_rfl)) (fun _=>rfl) (fun _=>zip1 _ _) hT hit ⟨by simp,rfl⟩ .ret ⟨_,rfl⟩ ?_ ?_ ?_
 ·clear hp hp2 hp3 hT hit
  rintro i y L D o o' W _ ⟨hno,rfl⟩ hy hc hown hp
  ((conv=>whnf);repeat' ((first|((with_reducible apply br_id);(with_reducible refine br_s (fun hx=>?_) (fun hx=>?_))<;>(try (exfalso;first|omega|contradiction)))|((with_reducible apply cn_id);refine cn rfl ?_)|((with_reducible apply ldn_id);apply lda_hs hp;(focus repeat' constructor);exact rfl)|((with_reducible apply al_id);refine al_cel hp ?_;clear hp;intro bb w hp)|((with_reducible apply st_id);apply sta_hs hp;(focus repeat' constructor);exact rfl;exact rfl;clear hp;intro w hp;(try dsimp only [List.set] at hp))|((with_reducible apply gen_id);(refine gen_eqa rfl rfl rfl (eq_key y v) (by kernel_rfl) (.inl rfl) ?_))|((with_reducible apply bg_id);(refine bg_hs hp 1 rfl ?_);clear hp;intro w hp;(try dsimp only [List.set] at hp)))<;>(conv=>whnf)))
  ·have hx':y=v:=by simpa using hx
   exact bo ⟨rfl,_,⟨hx'▸List.mem_of_getElem? hy,rfl⟩,hp.tail⟩
  ·refine bo ⟨_,⟨fun z hz=>?_,rfl⟩,hp.tail⟩
   rw [List.take_add_one,hy] at hz
   rcases List.mem_append.1 hz with hz|hz
   ·exact hno z hz
   ·simp at hz
    subst hz
    have hx':¬z=v:=by simpa using hx
    exact hx'
 ·clear hp hp2 hp3 hT hit
  rintro L D o W _ ⟨hf,rfl⟩ hp
  rw [List.take_length] at hf
  ((conv=>whnf);repeat' ((first|((with_reducible apply cn_id);refine cn rfl ?_)|((with_reducible apply ld_id);apply ld_hs hp;(focus repeat' constructor);exact rfl)|((with_reducible apply st_id);apply sta_hs hp;(focus repeat' constructor);exact rfl;exact rfl;clear hp;intro w hp;(try dsimp only [List.set] at hp))|((with_reducible apply td_id);(refine td_hs hp 1 rfl ?_);clear hp;intro w hp;(try dsimp only [List.set] at hp)))<;>(conv=>whnf)))
  exact ps_val (v':= .bool false) rfl ⟨by rw [decide_eq_false fun hh=>hf v hh rfl],hp.chg⟩
 ·clear hp hp2 hp3 hT hit
  rintro i L D o W _ hi ⟨hf,rfl⟩ hp
  ((conv=>whnf);repeat' ((first|((with_reducible apply ld_id);apply ld_hs hp;(focus repeat' constructor);exact rfl)|((with_reducible apply td_id);(refine td_hs hp 1 rfl ?_);clear hp;intro w hp;(try dsimp only [List.set] at hp)))<;>(conv=>whnf)))
  exact ps_val (v':= .bool true) rfl ⟨by rw [decide_eq_true hf],hp.chg⟩
theorem sixKey {B:Nat} {w0:World} {s:Sl Key} (h:SlAt B w0 Key.c 2 s) (v:Key):Calls Tryz.prog 176 #[s.v,Key.v v] w0 fun e w'=>e= .returned (i64 (if v∈s.l then ((s.l.idxOf v:Nat):Int) else -1))∧Chg N0 w0 w':=by
 have hp:=Hp.start (S:=N0) w0
 have hB:∀b,N0 b→B≤b:=fun _ hh=>hh.elim
 have us:=Tryz.underlying218
 have hmax:s.l.length≤9223372036854775807:=by have:=h.le;have:=h.max;simp only [maxLen] at this;omega
 refine calls_x (args:= [_,_]) tabOk Tryz.func176 Tryz.ntmps176 Tryz.results176 rfl (Nat.le_of_ble_eq_true rfl) ?_
 ((conv=>whnf);repeat' ((first|((with_reducible apply al_id);refine al_cel hp ?_;clear hp;intro bb w hp)|((with_reducible apply gen_id);apply gen_len;exact rfl;exact rfl;assumption))<;>(conv=>whnf)))
 obtain ⟨b3,hb3⟩:∃x,x=bb:=⟨_,rfl⟩
 subst hb3
 refine lp_inv (α:=Nat) (fun i=> [(0,s.v),(3,ptr b3),(7,i64 s.l.length),(8,i64 i)]) (fun i w=>i≤s.l.length∧(∀y∈s.l.take i,y≠v)∧Hp N0 w0 w [cel b3 54 (Key.c v).toArray]) (fun i=>s.l.length - i) 0 (by (repeat' (first|exact trivial|(refine ⟨rfl,?_⟩)))) ⟨by omega,by simp,hp⟩ ?_
 clear hp
 rintro i e0 w ⟨hi,hno,hp⟩
 dsimp only at hi hno hp ⊢
 rcases Nat.lt_or_ge i s.l.length with hlt|hge
 ·obtain ⟨bb,oo,y,hA,hbb,hrow,hyy⟩:=h.has hlt
  by_cases hyv:v=y
  ·subst hyv
   have hq:EqIs Tryz.prog 54 (Key.v v) (Key.v v) true:=by have:=eq_key v v;rwa [decide_eq_true rfl] at this
   have hix:s.l.idxOf v=i:=idxOf_at hyy hno
   have hbt:(if BinOp.eql=BinOp.eql then true else !true)=true:=rfl
   ((conv=>whnf);repeat' ((first|((with_reducible apply br_id);first|(with_reducible refine br_1 hbt ?_)|((with_reducible refine br_dec (fun hx=>?_) (fun hx=>?_))<;>(try (exfalso;first|omega|contradiction))))|((with_reducible apply ldn_id);first|(refine ldn_rowx hp hB ‹_› ‹_› _ rfl ‹_› rfl ?_)|(apply lda_hs hp;(focus repeat' constructor);exact rfl))|((with_reducible apply dr_id);refine dr_auto tabOk (by kernel_rfl) (by decide+kernel) ?_;(try replace hp:=hp.drew))|((with_reducible apply rd_id);first|(refine rd_ixs rfl rfl ‹_› rfl rfl (by omega) ?_)|(refine rd_eqa rfl rfl rfl hq (by kernel_rfl) (.inl rfl) ?_)))<;>(conv=>whnf)))
   exact ps_val (v':=i64 i) rfl ⟨by rw [if_pos (List.mem_of_getElem? hyy),hix],hp.chg⟩
  ·have hq:EqIs Tryz.prog 54 (Key.v v) (Key.v y) false:=by have:=eq_key v y;rwa [decide_eq_false hyv] at this
   have hbf:(if BinOp.eql=BinOp.eql then false else !false)=false:=rfl
   ((conv=>whnf);repeat' ((first|((with_reducible apply br_id);first|(with_reducible refine br_0 hbf ?_)|((with_reducible refine br_dec (fun hx=>?_) (fun hx=>?_))<;>(try (exfalso;first|omega|contradiction))))|((with_reducible apply ar_id);refine ar_i64 (by omega) ?_)|((with_reducible apply ldn_id);first|(refine ldn_rowx hp hB ‹_› ‹_› _ rfl ‹_› rfl ?_)|(apply lda_hs hp;(focus repeat' constructor);exact rfl))|((with_reducible apply dr_id);refine dr_auto tabOk (by kernel_rfl) (by decide+kernel) ?_;(try replace hp:=hp.drew))|((with_reducible apply rd_id);first|(refine rd_ixs rfl rfl ‹_› rfl rfl (by omega) ?_)|(refine rd_eqa rfl rfl rfl hq (by kernel_rfl) (.inl rfl) ?_)))<;>(conv=>whnf)))
   refine lp_next (i+1) (by show s.l.length - (i+1) < s.l.length - i;omega) (by (repeat' (first|exact trivial|(refine ⟨rfl,?_⟩)))) ⟨by show i+1≤_;omega,fun z hz=>?_,hp⟩
   rw [List.take_add_one,hyy] at hz
   rcases List.mem_append.1 hz with hz|hz
   ·exact hno z hz
   ·simp at hz
    subst hz
    exact fun e=>hyv e.symm
 ·((conv=>whnf);repeat' (((with_reducible apply br_id);(with_reducible refine br_dec (fun hx=>?_) (fun hx=>?_))<;>(try (exfalso;first|omega|contradiction)))<;>(conv=>whnf)))
  have hno':v∉s.l:=fun hm=>hno v (by rwa [List.take_of_length_le hge]) rfl
  exact ps_val (v':=i64 (-1)) rfl ⟨by rw [if_neg hno'],hp.chg⟩
theorem inoteHK {w0:World} {b m:Nat} {l:List (Hint×Sl Key)} {n:Int} (h:(star (iRsHK b m l n)).ok w0) (k:Hint) (v:Key) (hn:(idx l k).l.length≤100000) (hn2: -1000000≤n∧n≤1000000):Calls Tryz.prog 160 #[ptr b,Hint.v k,Key.v v] w0 fun e w'=>
  (v∈(idx l k).l∧e= .returned (.bool false)∧Chg N0 w0 w')∨(v∉(idx l k).l∧e= .returned (.bool true)∧∃s':Sl Key,s'.l=(idx l k).l++ [v]∧Mut (star (iRsHK b m l n)) (star (iRsHK b m (mput l k s') (n+1))) w0 w'):=by
 have hI:=idxAt h
 by_cases hv:v∈(idx l k).l
 ·have hp:=Hp.start (S:=N0) w0
  have hhas:∀{w:World},Chg N0 w0 w→Calls Tryz.prog 173 #[ptr b,Hint.v k,Key.v v] w fun e w'=>e= .returned (.bool true)∧Chg N0 w w':=fun hc=>by
   have:=ihasHK ((star (iRsHK b m l n)).keep0 h hc) k v (by omega)
   rwa [decide_eq_true hv] at this
  refine calls_x (args:= [_,_,_]) tabOk Tryz.func160 Tryz.ntmps160 Tryz.results160 rfl (Nat.le_of_ble_eq_true rfl) ?_
  ((conv=>whnf);repeat' ((first|((with_reducible apply br_id);first|with_reducible refine br_t ?_|with_reducible refine br_f ?_)|((with_reducible apply ldn_id);apply lda_hs hp;(focus repeat' constructor);exact rfl)|((with_reducible apply al_id);refine al_cel hp ?_;clear hp;intro bb w hp)|((with_reducible apply cl_id);first|((refine cl_eq ((inoneHK (hp.chg.cell0 hI.c0))) rfl rfl ?_;rintro e w ⟨rfl,hcc⟩;replace hp:=hp.call0 hcc;refine ⟨_,rfl,?_⟩))|((refine cl_eq ((hhas hp.chg)) rfl rfl ?_;rintro e w ⟨rfl,hcc⟩;replace hp:=hp.call0 hcc;refine ⟨_,rfl,?_⟩))))<;>(conv=>whnf)))
  exact ps_val (v':= .bool false) rfl (.inl ⟨hv,rfl,hp.chg⟩)
 ·have hp:=Hp.open h
  have hhas:∀{w:World} {c:List Res},Hp (star (iRsHK b m l n)).dom w0 w (c++iRsHK b m l n)→Calls Tryz.prog 173 #[ptr b,Hint.v k,Key.v v] w fun e w'=>e= .returned (.bool false)∧Chg N0 w w':=fun {w c} hp=>by
   have h1:(star (iRsHK b m l n)).ok w:=(hp.sub (List.sublist_append_right c _)).fold1.get (j:=0) rfl
   have:=ihasHK h1 k v (by omega)
   rwa [decide_eq_false hv] at this
  have hkk:EqIs Tryz.prog 44 (Hint.v k) (Hint.v k) true:=by have:=eq_hint k k;rwa [decide_eq_true rfl] at this
  have hbn:(if BinOp.neq=BinOp.eql then true else !true)=false:=rfl
  refine calls_x (args:= [_,_,_]) tabOk Tryz.func160 Tryz.ntmps160 Tryz.results160 rfl (Nat.le_of_ble_eq_true rfl) ?_
  ((conv=>whnf);repeat' ((first|((with_reducible apply br_id);first|(with_reducible refine br_0 hbn ?_)|with_reducible refine br_f ?_)|((with_reducible apply ldn_id);apply lda_hs hp;(focus repeat' constructor);exact rfl)|((with_reducible apply al_id);refine al_cel hp ?_;clear hp;intro bb w hp)|((with_reducible apply gen_id);(refine gen_eqa rfl rfl rfl hkk (by kernel_rfl) (.inr rfl) ?_))|((with_reducible apply cl_id);first|((refine cl_eq ((inoneHK (cell_of_heap (hp.cel_get (j:=2) rfl) rfl))) rfl rfl ?_;rintro e w ⟨rfl,hcc⟩;replace hp:=hp.call0 hcc;refine ⟨_,rfl,?_⟩))|((refine cl_eq ((hhas (c:= [_,_]) hp)) rfl rfl ?_;rintro e w ⟨rfl,hcc⟩;replace hp:=hp.call0 hcc;refine ⟨_,rfl,?_⟩))))<;>(conv=>whnf)))
  obtain ⟨rest,hp,hperm, -⟩:=idx_out (c:= [_,_]) k hp
  have hl1:=(hp.row (j:=0) rfl).le
  refine dr_autos [1,2,3,4] 13 tabOk (by kernel_rfl) (by decide+kernel) ?_
  replace hp:=hp.drew
  ((conv=>whnf);repeat' ((first|((with_reducible apply ar_id);refine ar_i64 (by omega) ?_)|((with_reducible apply cn_id);first|refine cn rfl ?_|refine cn (Chg.refl _ _) ?_)|((with_reducible apply ld_id);apply ld_hs hp;(focus repeat' constructor);exact rfl)|((with_reducible apply ldn_id);apply lda_hs hp;(focus repeat' constructor);exact rfl)|((with_reducible apply st_id);apply st_hs hp;(focus repeat' constructor);exact rfl;exact rfl;clear hp;intro w hp;(try dsimp only [List.set] at hp))|((with_reducible apply gen_id);first|((refine gen_bs rfl hp el_key Key.c [v] [Key.v v] rfl rfl rfl (fun _ hh=>by simp at hh;subst hh;rfl) (by omega) ?_);clear hp;intro br w hp)|((refine gen_app (s:=idx l k) rfl hp 1 rfl el_key rfl ⟨some ⟨br,0,none⟩,1, [v]⟩ rfl (hp.row (j:=0) rfl) (fun _ _=>rfl) key_one (by simp only [List.length_cons,List.length_nil];omega) (by simp only [maxLen,List.length_cons,List.length_nil];omega) ?_);clear hp;intro A2 c2 w hp;dsimp only [List.set] at hp)|((refine gen_put rfl hp 5 rfl rfl hintK Tryz.underlying256 k rfl (⟨A2,c2,(idx l k).l++ [v]⟩:Sl Key) rfl ?_);clear hp;intro w hp;dsimp only [List.set] at hp))|((with_reducible apply fk_id);refine fk_mk ?_ ?_)|((with_reducible apply rd_id);(refine rd_look rfl hp 4 rfl rfl hintK Tryz.underlying256 (z:=Sl.nil) rfl k rfl ?_)))<;>(conv=>whnf)))
  all_goals
   have hp3:=idx_back (l':=mput l k ⟨A2,c2,(idx l k).l++ [v]⟩) (c:= [_,_]) hp.tail (hperm ⟨A2,c2,(idx l k).l++ [v]⟩)
   exact ps_val (v':= .bool true) rfl (.inr ⟨hv,rfl,⟨A2,c2,(idx l k).l++ [v]⟩,rfl,hp3.shut (List.sublist_append_right _ _)⟩)
theorem istrikeHK {w0:World} {b m:Nat} {l:List (Hint×Sl Key)} {n:Int} (h:(star (iRsHK b m l n)).ok w0) (k:Hint) (v:Key) (hn:(idx l k).l.length≤100000) (hn2: -1000000≤n∧n≤1000000):Calls Tryz.prog 162 #[ptr b,Hint.v k,Key.v v] w0 fun e w'=>
  (v∉(idx l k).l∧e= .returned (.bool false)∧Chg N0 w0 w')∨(v∈(idx l k).l∧e= .returned (.bool true)∧∃l',(∀x,(idx l' x).l=if x=k then (idx l k).l.erase v else (idx l x).l)∧Mut (star (iRsHK b m l n)) (star (iRsHK b m l' (n - 1))) w0 w'):=by
 by_cases hv:v∈(idx l k).l
 ·have hp:=Hp.open h
  have us:=Tryz.underlying218
  have hhas:∀{w:World} {c:List Res},Hp (star (iRsHK b m l n)).dom w0 w (c++iRsHK b m l n)→Calls Tryz.prog 173 #[ptr b,Hint.v k,Key.v v] w fun e w'=>e= .returned (.bool true)∧Chg N0 w w':=fun {w c} hp=>by
   have h1:(star (iRsHK b m l n)).ok w:=(hp.sub (List.sublist_append_right c _)).fold1.get (j:=0) rfl
   have:=ihasHK h1 k v (by omega)
   rwa [decide_eq_true hv] at this
  have hsix:∀{w:World},SlAt w.heap.size w Key.c 2 (idx l k)→Calls Tryz.prog 176 #[(idx l k).v,Key.v v] w fun e w'=>e= .returned (i64 ((idx l k).l.idxOf v:Nat))∧Chg N0 w w':=fun hs=>by
   have:=sixKey hs v
   rwa [if_pos hv] at this
  have hlt:(idx l k).l.idxOf v < (idx l k).l.length:=List.idxOf_lt_length_of_mem hv
  obtain ⟨a,ha⟩:∃a,(idx l k).l.idxOf v=a:=⟨_,rfl⟩
  rw [ha] at hlt hsix
  refine calls_x (args:= [_,_,_]) tabOk Tryz.func162 Tryz.ntmps162 Tryz.results162 rfl (Nat.le_of_ble_eq_true rfl) ?_
  ((conv=>whnf);repeat' ((first|((with_reducible apply br_id);first|with_reducible refine br_t ?_|with_reducible refine br_not ?_)|((with_reducible apply ldn_id);apply lda_hs hp;(focus repeat' constructor);exact rfl)|((with_reducible apply al_id);refine al_cel hp ?_;clear hp;intro bb w hp)|((with_reducible apply cl_id);(refine cl_eq ((hhas (c:= [_,_]) hp)) rfl rfl ?_;rintro e w ⟨rfl,hcc⟩;replace hp:=hp.call0 hcc;refine ⟨_,rfl,?_⟩)))<;>(conv=>whnf)))
  obtain ⟨rest,hp,hperm,hrest⟩:=idx_out (c:= [_,_]) k hp
  have hle:=(hp.row (j:=0) rfl).le
  by_cases hlen:(idx l k).l.length=1
  ·have hlen':=hlen
   unfold idx at hlen'
   ((conv=>whnf);repeat' ((first|((with_reducible apply br_id);(with_reducible refine br_eq (fun hx=>?_) (fun hx=>?_))<;>(try (exfalso;first|omega|contradiction)))|((with_reducible apply ar_id);refine ar_i64 (by omega) ?_)|((with_reducible apply cn_id);refine cn rfl ?_)|((with_reducible apply ld_id);apply ld_hs hp;(focus repeat' constructor);exact rfl)|((with_reducible apply ldn_id);apply lda_hs hp;(focus repeat' constructor);exact rfl)|((with_reducible apply st_id);apply st_hs hp;(focus repeat' constructor);exact rfl;exact rfl;clear hp;intro w hp;(try dsimp only [List.set] at hp))|((with_reducible apply gen_id);first|((refine gen_del rfl hp 4 rfl rfl hintK Tryz.underlying256 k rfl ?_);clear hp;intro w hp;dsimp only [List.set] at hp)|(apply gen_len;exact rfl;exact rfl;assumption))|((with_reducible apply dr_id);refine dr_auto tabOk (by kernel_rfl) (by decide+kernel) ?_;(try replace hp:=hp.drew))|((with_reducible apply cl_id);(refine cl_eq ((hsix (hp.row (j:=0) rfl))) rfl rfl ?_;rintro e w ⟨rfl,hcc⟩;replace hp:=hp.call0 hcc;refine ⟨_,rfl,?_⟩))|((with_reducible apply rd_id);(refine rd_look rfl hp 4 rfl rfl hintK Tryz.underlying256 (z:=Sl.nil) rfl k rfl ?_)))<;>(conv=>whnf)))
   subst hrest
   refine ps_val (v':= .bool true) rfl (.inr ⟨hv,rfl,mdel l k,fun x=>?_,(hp.tail.sub (List.sublist_append_right [_,_] _)).shut (.refl _)⟩)
   rw [idx_mdel]
   by_cases hx:x=k
   ·rw [if_pos hx,if_pos hx]
    exact (erase_one hv hlen).symm
   ·rw [if_neg hx,if_neg hx]
  ·have hlen':=hlen
   unfold idx at hlen'
   have hc0:(0:Nat)≤a:=Nat.zero_le _
   have hal:a≤(idx l k).l.length:=Nat.le_of_lt hlt
   have hl1:((idx l k).cut 2 0 a).l.length=a:=by rw [Sl.cut_len hal];omega
   have hl2:((idx l k).cut 2 (a+1) (idx l k).l.length).l.length≤100000:=by rw [Sl.cut_len (Nat.le_refl _)];omega
   ((conv=>whnf))
   refine dr_auto tabOk (by kernel_rfl) (by decide+kernel) ?_
   replace hp:=hp.drew
   ((conv=>whnf);repeat' ((first|((with_reducible apply br_id);(with_reducible refine br_eq (fun hx=>?_) (fun hx=>?_))<;>(try (exfalso;first|omega|contradiction)))|((with_reducible apply ar_id);refine ar_i64 (by omega) ?_)|((with_reducible apply cn_id);refine cn rfl ?_)|((with_reducible apply ld_id);apply ld_hs hp;(focus repeat' constructor);exact rfl)|((with_reducible apply ldn_id);apply lda_hs hp;(focus repeat' constructor);exact rfl)|((with_reducible apply st_id);apply st_hs hp;(focus repeat' constructor);exact rfl;exact rfl;clear hp;intro w hp;(try dsimp only [List.set] at hp))|((with_reducible apply gen_id);apply gen_len;exact rfl;exact rfl;assumption)|((with_reducible apply cl_id);(refine cl_eq ((hsix (hp.row (j:=0) rfl))) rfl rfl ?_;rintro e w ⟨rfl,hcc⟩;replace hp:=hp.call0 hcc;refine ⟨_,rfl,?_⟩))|((with_reducible apply rd_id);(refine rd_look rfl hp 4 rfl rfl hintK Tryz.underlying256 (z:=Sl.nil) rfl k rfl ?_)))<;>(conv=>whnf)))
   refine dr_autos [1,2,3,4] 13 tabOk (by kernel_rfl) (by decide+kernel) ?_
   replace hp:=hp.drew
   ((conv=>whnf);repeat' ((first|((with_reducible apply ar_id);(refine ar_n (a+1) (by omega) (by omega) ?_))|((with_reducible apply cn_id);first|refine cn ‹_› ?_|refine cn (Chg.refl _ _) ?_)|((with_reducible apply ld_id);apply ld_hs hp;(focus repeat' constructor);exact rfl)|((with_reducible apply ldn_id);apply lda_hs hp;(focus repeat' constructor);exact rfl)|((with_reducible apply gen_id);first|((refine gen_app0 rfl hp el_key rfl ((idx l k).cut 2 0 a) rfl ((hp.row (j:=0) rfl).cut hc0 hal) (fun _ _=>rfl) key_one (by omega) (by simp only [maxLen];omega) ?_);clear hp;intro A1 c1 w hcc hp)|((refine gen_app (s:=⟨A1,c1,((idx l k).cut 2 0 a).l⟩) rfl hp 0 rfl el_key rfl ((idx l k).cut 2 (a+1) (idx l k).l.length) rfl ((hp.row (j:=1) rfl).cut hlt (Nat.le_refl _)) (fun _ _=>rfl) key_one (by show (((idx l k).cut 2 0 a).l.length+_)*_≤_;omega) (by show ((idx l k).cut 2 0 a).l.length+_≤_;simp only [maxLen];omega) ?_);clear hp;intro A2 c2 w hp;dsimp only [List.set] at hp)|((refine gen_put rfl hp 5 rfl rfl hintK Tryz.underlying256 k rfl (⟨A2,c2,((idx l k).cut 2 0 a).l++((idx l k).cut 2 (a+1) (idx l k).l.length).l⟩:Sl Key) rfl ?_);clear hp;intro w hp;dsimp only [List.set] at hp))|((with_reducible apply fk_id);refine fk_mk ?_ ?_)|((with_reducible apply rd_id);first|(refine rd_cuth rfl el_key (idx l k) rfl hle rfl (h:=a) rfl hal ?_)|(refine rd_cutl rfl el_key (idx l k) rfl hle rfl (l:=a+1) rfl hlt ?_)))<;>(conv=>whnf)))
   all_goals
    obtain ⟨s',hs'⟩:∃s':Sl Key,s'=⟨A2,c2,((idx l k).cut 2 0 a).l++((idx l k).cut 2 (a+1) (idx l k).l.length).l⟩:=⟨_,rfl⟩
    rw [←hs'] at hp
    have hp3:=idx_back (l':=mput l k s') (c:= [_,_]) (hp.sub ((List.sublist_cons_self _ _).cons_cons _)) (hperm s')
    refine ps_val (v':= .bool true) rfl (.inr ⟨hv,rfl,mput l k s',fun x=>?_,hp3.shut (List.sublist_append_right _ _)⟩)
    rw [idx_mput]
    by_cases hx:x=k
    ·rw [if_pos hx,if_pos hx,hs']
     exact erase_cut ha
    ·rw [if_neg hx,if_neg hx]
 ·have hp:=Hp.start (S:=N0) w0
  have hhas:∀{w:World},Chg N0 w0 w→Calls Tryz.prog 173 #[ptr b,Hint.v k,Key.v v] w fun e w'=>e= .returned (.bool false)∧Chg N0 w w':=fun hc=>by
   have:=ihasHK ((star (iRsHK b m l n)).keep0 h hc) k v (by omega)
   rwa [decide_eq_false hv] at this
  refine calls_x (args:= [_,_,_]) tabOk Tryz.func162 Tryz.ntmps162 Tryz.results162 rfl (Nat.le_of_ble_eq_true rfl) ?_
  ((conv=>whnf);repeat' ((first|((with_reducible apply br_id);first|with_reducible refine br_f ?_|with_reducible refine br_not ?_)|((with_reducible apply ldn_id);apply lda_hs hp;(focus repeat' constructor);exact rfl)|((with_reducible apply al_id);refine al_cel hp ?_;clear hp;intro bb w hp)|((with_reducible apply cl_id);(refine cl_eq ((hhas hp.chg)) rfl rfl ?_;rintro e w ⟨rfl,hcc⟩;replace hp:=hp.call0 hcc;refine ⟨_,rfl,?_⟩)))<;>(conv=>whnf)))
  exact ps_val (v':= .bool false) rfl (.inl ⟨hv,rfl,hp.chg⟩)
end Go.Proofs.YtpbapnlnheahnaaGreatDoor
