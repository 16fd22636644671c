/- Aud8: the document's audit: names, tiers in a block, the rules that one job breaks. Of states that are few. -/
import Derived.Test.YteabebmlclgakaaGreatMAuditTells29
import Derived.Test.YteabebmlclgakaaGreatMAuditTells31
set_option linter.unusedSimpArgs false
set_option linter.unusedVariables false
namespace Go.Proofs.YteabebmlclgakaaGreat
open Go.RowKit
set_option maxRecDepth 100000
set_option maxHeartbeats 4000000
abbrev sL (s:List UInt8):List Value:= [str s]
theorem el_str:ElT Tryz.prog 78 9 1 16:=elt_of (z:=str []) Tryz.underlying78 (by kernel_rfl) rfl (by omega)
theorem str_one {l:List (List UInt8)}:∀x∈l,∀u∈sL x,u.oneCell'=true:=fun x _ u hu=>List.all_eq_true.1 (show (sL x).all Value.oneCell'=true from rfl) u hu
theorem rnames_any (w0:World):Calls Tryz.prog 28 #[] w0 fun e w'=>∃r:Sl (List UInt8),r.l=namesL∧e= .returned r.v∧Made (rowR 9 1 sL r) w0 w':=by
 have hp:=Hp.start (S:=N0) w0
 refine calls_x (args:= []) tabOk Tryz.func28 Tryz.ntmps28 Tryz.results28 rfl (Nat.le_of_ble_eq_true rfl) ?_
 ((conv=>whnf);repeat' (((with_reducible refine gen_id ?_);((refine gen_bs rfl hp el_str sL namesL (namesL.map str) rfl rfl rfl (fun _ _=>rfl) (by omega) ?_);clear hp;intro br w hp))<;>(conv=>whnf)))
 exact ps_of ⟨⟨some ⟨br,0,none⟩,10,namesL⟩,rfl,rfl,hp.made1 (j:=0) rfl⟩
theorem rints_any {B B':Nat} {w0:World} {a b:Sl Int} (ha:SlAt B w0 iL 1 a) (hb:SlAt B' w0 iL 1 b):Calls Tryz.prog 29 #[a.v,b.v] w0 fun e w'=>e= .returned (.bool (decide (a.l=b.l)))∧Chg N0 w0 w':=by
 have hp:=Hp.start (S:=N0) w0
 replace ha:=ha.more (Nat.le_max_left B B')
 replace hb:=hb.more (Nat.le_max_right B B')
 have hB:∀b,N0 b→max B B'≤b:=fun _ hh=>hh.elim
 have us:=Tryz.underlying76
 have hm1:a.l.length≤9223372036854775807:=by have:=ha.le;have:=ha.max;simp only [maxLen] at this;omega
 have hm2:b.l.length≤9223372036854775807:=by have:=hb.le;have:=hb.max;simp only [maxLen] at this;omega
 have hno:(a.l.length:Int)≠b.l.length→a.l≠b.l:=fun h e=>by
  have:=congrArg List.length e
  omega
 refine calls_x (args:= [_,_]) tabOk Tryz.func29 Tryz.ntmps29 Tryz.results29 rfl (Nat.le_of_ble_eq_true rfl) ?_
 ((conv=>whnf);repeat' ((first|((with_reducible refine br_id ?_);((with_reducible refine br_ne (fun hx=>?_) (fun hx=>?_))<;>(try (exfalso;first|omega|contradiction))))|((with_reducible refine gen_id ?_);(apply gen_len;exact rfl;exact rfl;assumption)))<;>(conv=>whnf)))
 ·exact ps_val (v':= .bool false) rfl ⟨by rw [decide_eq_false (hno hx)],hp.chg⟩
 ·have hlen:a.l.length=b.l.length:=by omega
  clear hno
  refine lp_inv (α:=Nat) (fun i=> [(0,a.v),(1,b.v),(5,i64 i)]) (fun i w=>i≤a.l.length∧a.l.take i=b.l.take i∧Hp N0 w0 w []) (fun i=>a.l.length - i) 0 (by (repeat' (first|exact trivial|(refine ⟨rfl,?_⟩)))) ⟨by omega,rfl,hp⟩ ?_
  clear hp
  rintro i e0 w ⟨hi,heq,hp⟩
  dsimp only at hi heq hp ⊢
  rcases Nat.lt_or_ge i a.l.length with hlt|hge
  ·obtain ⟨b1,o1,x,hA,hb1,hrow,hxx⟩:=ha.has hlt
   obtain ⟨b2,o2,y,hA2,hb2,hrow2,hyy⟩:=hb.has (i:=i) (by omega)
   have hix:(0:Int)≤i∧(i:Int) < b.l.length:=by omega
   ((conv=>whnf);repeat' ((first|((with_reducible refine br_id ?_);first|((with_reducible refine br_dec (fun hx=>?_) (fun hx=>?_))<;>(try (exfalso;first|omega|contradiction)))|((with_reducible refine br_ne (fun hx=>?_) (fun hx=>?_))<;>(try (exfalso;first|omega|contradiction))))|((with_reducible refine ar_id ?_);(refine ar_i64 (by omega) ?_))|((with_reducible refine ld_id ?_);first|((refine ld_row0 hp hB hb1 hrow i rfl hxx rfl ?_))|((refine ld_row0 hp hB hb2 hrow2 i rfl hyy rfl ?_)))|((with_reducible refine gen_id ?_);(apply gen_len;exact rfl;exact rfl;assumption))|((with_reducible refine dr_id ?_);(refine dr_auto tabOk (by kernel_rfl) (by decide+kernel) ?_;(try replace hp:=hp.drew)))|((with_reducible refine rd_id ?_);first|((refine rd_ixs rfl rfl hA rfl rfl (by omega) ?_))|((refine rd_ixs rfl rfl hA2 rfl rfl (by omega) ?_))))<;>(conv=>whnf)))
   all_goals first
    |(refine lp_next (i+1) (by show a.l.length - (i+1) < a.l.length - i;omega) (by (repeat' (first|exact trivial|(refine ⟨rfl,?_⟩)))) ⟨by show i+1≤_;omega,?_,hp⟩
      show a.l.take (i+1)=b.l.take (i+1)
      rw [List.take_add_one,List.take_add_one,hxx,hyy,heq,show x=y by omega])
    |(refine ps_val (v':= .bool false) rfl ⟨?_,hp.chg⟩
      rw [decide_eq_false]
      intro e
      rw [e,hyy] at hxx
      exact hx (Option.some.inj hxx).symm)
  ·((conv=>whnf);repeat' ((first|((with_reducible refine br_id ?_);((with_reducible refine br_dec (fun hx=>?_) (fun hx=>?_))<;>(try (exfalso;first|omega|contradiction))))|((with_reducible refine gen_id ?_);(apply gen_len;exact rfl;exact rfl;assumption)))<;>(conv=>whnf)))
   rw [List.take_of_length_le (by omega),List.take_of_length_le (by omega)] at heq
   exact ps_val (v':= .bool true) rfl ⟨by rw [decide_eq_true heq],hp.chg⟩
def tirB (b:Blk) (p:Payload):Bool:=(idsP p).any fun v=>decide (v∈b.tx.l)
theorem rtier_any {B:Nat} {w0:World} {b:Blk} {p:Payload} (hb:SlAt B w0 Id.c 32 b.tx) (hp0:PayAt B w0 p) (hf:fewP p=true):Calls Tryz.prog 151 #[b.v,p.pv] w0 fun e w'=>e= .returned (.bool (tirB b p))∧Chg N0 w0 w':=by
 have hp:=Hp.start (S:=N0) w0
 have hB:∀b,N0 b→B≤b:=fun _ hh=>hh.elim
 have u1:=Tryz.underlying45
 have hfl:=(fewP_at hf).2
 refine calls_x (args:= [_,_]) tabOk Tryz.func151 Tryz.ntmps151 Tryz.results151 rfl (Nat.le_of_ble_eq_true rfl) ?_
 ((conv=>whnf);repeat' (((with_reducible refine al_id ?_);(refine al_cel hp ?_;clear hp;intro bb w hp))<;>(conv=>whnf)))
 obtain ⟨b3,hb3⟩:∃x,x=bb:=⟨_,rfl⟩
 subst hb3
 obtain ⟨b2',hb2⟩:∃x,x=bb:=⟨_,rfl⟩
 subst hb2
 refine lp_inv (α:=Nat) (fun i=> [(2,ptr b2'),(3,ptr b3),(5,i64 i)]) (fun i w=>i≤p.l.length∧(∀t∈p.l.take i,shaV t.tx.l∉b.tx.l)∧Hp N0 w0 w [cel b3 47 #[p.v],cel b2' 54 b.c.toArray]) (fun i=>p.l.length - i) 0 (by (repeat' (first|exact trivial|(refine ⟨rfl,?_⟩)))) ⟨by omega,by simp,hp⟩ ?_
 clear hp
 rintro i e0 w ⟨hi,hno,hp⟩
 dsimp only at hi hno hp ⊢
 rcases Nat.lt_or_ge i p.l.length with hlt|hge
 ·obtain ⟨bb,oo,t,hA,hbb,hrow,htt⟩:=hp0.row.has hlt
  have htm:=List.mem_of_getElem? htt
  have hta:=hp0.tx t htm
  have htl:=(fewP_at hf).1 t htm
  obtain ⟨q,hq⟩:∃q,decide (shaV t.tx.l∈b.tx.l)=q:=⟨_,rfl⟩
  have hh:∀{w:World},Chg N0 w0 w→Calls Tryz.prog 152 #[b.v,(shaV t.tx.l).v] w fun e w'=>e= .returned (.bool q)∧Chg N0 w w':=fun hc=>by rw [←hq];exact has16_any (hb.keep hc hB) _
  ((conv=>whnf);repeat' ((first|((with_reducible refine br_id ?_);((with_reducible refine br_dec (fun hx=>?_) (fun hx=>?_))<;>(try (exfalso;first|omega|contradiction))))|((with_reducible refine ld_id ?_);(apply ld_hs hp;(focus repeat' constructor);exact rfl))|((with_reducible refine gen_id ?_);(apply gen_len;exact rfl;exact rfl;assumption)))<;>(conv=>whnf)))
  refine dr_autos [] 1000 tabOk (by kernel_rfl) (by decide+kernel) ?_
  replace hp:=hp.drew
  cases q with
  |true=>
   ((conv=>whnf);repeat' ((first|((with_reducible refine br_id ?_);(with_reducible refine br_t ?_))|((with_reducible refine cn_id ?_);(refine cn ‹_› ?_))|((with_reducible refine ld_id ?_);first|((refine ld_row hp hB ‹_› ‹_› _ _ rfl ‹_› (by rfl) ?_))|(apply ld_hs hp;(focus repeat' constructor);exact rfl))|((with_reducible refine ldn_id ?_);(apply lda_hs hp;(focus repeat' constructor);exact rfl))|((with_reducible refine cl_id ?_);first|((refine cl_eq ((rid_any (hta.keep hp.chg hB) (by omega))) rfl rfl ?_;rintro e w ⟨rfl,hcc⟩;replace hp:=hp.call0 hcc;refine ⟨_,rfl,?_⟩))|((refine cl_eq ((hh hp.chg)) rfl rfl ?_;rintro e w ⟨rfl,hcc⟩;replace hp:=hp.call0 hcc;refine ⟨_,rfl,?_⟩)))|((with_reducible refine rd_id ?_);((refine rd_ixs rfl rfl ‹_› rfl rfl (by omega) ?_))))<;>(conv=>whnf)))
   all_goals
    refine ps_val (v':= .bool true) rfl ⟨?_,hp.chg⟩
    have:tirB b p=true:=List.any_eq_true.2 ⟨shaV t.tx.l,List.mem_map_of_mem (f:=fun t:Tier=>shaV t.tx.l) htm,hq⟩
    rw [this]
  |false=>
   ((conv=>whnf);repeat' ((first|((with_reducible refine br_id ?_);(with_reducible refine br_f ?_))|((with_reducible refine ar_id ?_);(refine ar_i64 (by omega) ?_))|((with_reducible refine cn_id ?_);(refine cn ‹_› ?_))|((with_reducible refine ld_id ?_);first|((refine ld_row hp hB ‹_› ‹_› _ _ rfl ‹_› (by rfl) ?_))|(apply ld_hs hp;(focus repeat' constructor);exact rfl))|((with_reducible refine ldn_id ?_);(apply lda_hs hp;(focus repeat' constructor);exact rfl))|((with_reducible refine cl_id ?_);first|((refine cl_eq ((rid_any (hta.keep hp.chg hB) (by omega))) rfl rfl ?_;rintro e w ⟨rfl,hcc⟩;replace hp:=hp.call0 hcc;refine ⟨_,rfl,?_⟩))|((refine cl_eq ((hh hp.chg)) rfl rfl ?_;rintro e w ⟨rfl,hcc⟩;replace hp:=hp.call0 hcc;refine ⟨_,rfl,?_⟩)))|((with_reducible refine rd_id ?_);((refine rd_ixs rfl rfl ‹_› rfl rfl (by omega) ?_))))<;>(conv=>whnf)))
   all_goals
    refine lp_next (i+1) (by show p.l.length - (i+1) < p.l.length - i;omega) (by (repeat' (first|exact trivial|(refine ⟨rfl,?_⟩)))) ⟨by show i+1≤_;omega,fun z hz=>?_,hp⟩
    rw [List.take_add_one,htt] at hz
    rcases List.mem_append.1 hz with hz|hz
    ·exact hno z hz
    ·simp at hz
     subst hz
     exact of_decide_eq_false hq
 ·rw [List.take_of_length_le hge] at hno
  ((conv=>whnf);repeat' ((first|((with_reducible refine br_id ?_);((with_reducible refine br_dec (fun hx=>?_) (fun hx=>?_))<;>(try (exfalso;first|omega|contradiction))))|((with_reducible refine ld_id ?_);(apply ld_hs hp;(focus repeat' constructor);exact rfl))|((with_reducible refine gen_id ?_);(apply gen_len;exact rfl;exact rfl;assumption)))<;>(conv=>whnf)))
  refine ps_val (v':= .bool false) rfl ⟨?_,hp.chg⟩
  have:tirB b p=false:=by
   unfold tirB
   rw [List.any_eq_false]
   intro v hv
   obtain ⟨t,ht,rfl⟩:=List.mem_map.1 hv
   simpa using hno t ht
  rw [this]
def htQ (x:Sta) (q:Nat):Int:=(x.ht.toNat:Int) - (x.win.l.length:Int)+1+q
def p7 (j:Job) (b:Blk):Bool:=decide (j.mined.toNat=0) && tirB b j.pay
def p8 (h:Int) (j:Job) (b:Blk):Bool:=decide (h=(j.height.toNat:Int)) && !decide (j.breach∈b.tx.l)
def p9 (h:Int) (j:Job) (b:Blk):Bool:=decide (j.mined.toNat≠0) && (decide (h=(j.mined.toNat:Int)) && !tirB b j.pay)
def oneQ (x:Sta) (j:Job) (q:Nat):List Int:=match x.win.l[q]? with
 |none=> []
 |some b=>(if p7 j b=true then [7] else [])++((if p8 (htQ x q) j b=true then [8] else [])++(if p9 (htQ x q) j b=true then [9] else []))
def jobL (x:Sta) (i:Nat) (j:Job) (n:Nat):List Int:=(if jobAt x.ht x.jobs.l i=true then [] else [6])++(List.range n).flatMap (oneQ x j)
theorem jobL_next (x:Sta) (i:Nat) (j:Job) (n:Nat):jobL x i j (n+1)=jobL x i j n++oneQ x j n:=by
 unfold jobL
 rw [List.range_succ,List.flatMap_append,List.append_assoc]
 simp
theorem oneQ_len (x:Sta) (j:Job) (q:Nat):(oneQ x j q).length≤3:=by
 unfold oneQ
 split
 ·simp
 ·split<;>split<;>split<;>simp
theorem jobL_len (x:Sta) (i:Nat) (j:Job):∀n,(jobL x i j n).length≤1+3*n
 |0=>by unfold jobL;split<;>simp
 |n+1=>by
  have:=jobL_len x i j n
  have:=oneQ_len x j n
  rw [jobL_next,List.length_append]
  omega
theorem rjobs37_any {B:Nat} {w0:World} {x:Sta} (hs:StaAt B w0 x) (hf:FewI x) (hlv:∀j∈x.jobs.l, -9223372036854775808≤j.live∧j.live≤9223372036854775807) {i:Nat} {j:Job} (hj:x.jobs.l[i]? =some j):Calls Tryz.prog 87 #[x.v,i64 i] w0 fun e w'=>∃r:Sl Int,r.l=jobL x i j x.win.l.length∧e= .returned r.v∧Made (rowR 3 1 iL r) w0 w':=by
 have hp:=Hp.start (S:=N0) w0
 have hB:∀b,N0 b→B≤b:=fun _ hh=>hh.elim
 have u3:=Tryz.underlying26
 have u4:=Tryz.underlying29
 have us:=Tryz.underlying76
 have f3:=hf.win
 have f4:=hf.jobs
 have hht:=x.ht.toNat_lt
 have hle:=hs.jobs.le
 have hlt:=(List.getElem?_eq_some_iff.1 hj).1
 obtain ⟨b,o,y,hA,hbb,hrow,hyy⟩:=hs.jobs.has hlt
 obtain rfl:y=j:=Option.some.inj (hyy.symm.trans hj)
 have hyh:=y.height.toNat_lt
 have hym:=y.mined.toNat_lt
 have hmem:=List.mem_of_getElem? hyy
 have hya:=hs.pay y hmem
 have hyf:=hf.pay y hmem
 obtain ⟨q,hq⟩:∃q,rightJ y=q:=⟨_,rfl⟩
 have hrt:∀{w:World},Chg N0 w0 w→Calls Tryz.prog 100 #[y.v] w fun e w'=>e= .returned (.bool q)∧Chg N0 w w':=fun hc=>by rw [←hq];exact rjright29_any (hya.keep hc hB) (hlv y hmem)
 obtain ⟨m,hm⟩:∃m,fndBy (fun j:Job=>decide (j.key=y.key)) (x.jobs.l.take i)=m:=⟨_,rfl⟩
 have hfd:∀{w:World},Chg N0 w0 w→Calls Tryz.prog 101 #[(x.jobs.cut 38 0 i).v,y.key.v] w fun e w'=>e= .returned (i64 m)∧Chg N0 w w':=fun hc=>by
  have:=rjfind29_any ((hs.jobs.cut (lo:=0) (hi:=i) (by omega) (by omega)).keep hc hB) y.key
  rw [take_cut,hm] at this
  exact this
 have hmm:0≤m↔y.key∈(x.jobs.l.take i).map (·.key):=by
  rw [←hm,fndBy_ge,List.mem_map]
  simp only [decide_eq_true_eq]
 have hja:jobAt x.ht x.jobs.l i=(q && decide ((y.height.toNat≤x.ht.toNat∧y.mined.toNat≤x.ht.toNat)∧¬0≤m)):=by
  unfold jobAt
  rw [hyy]
  dsimp only
  rw [hq]
  refine congrArg (q && ·) (decide_eq_decide.2 ?_)
  rw [hmm]
 have hy6:(q && decide ((y.height.toNat≤x.ht.toNat∧y.mined.toNat≤x.ht.toNat)∧¬0≤m))=false→jobL x i y 0= [6]:=fun h=>by unfold jobL;rw [hja,h];simp
 have hn6:(q && decide ((y.height.toNat≤x.ht.toNat∧y.mined.toNat≤x.ht.toNat)∧¬0≤m))=true→jobL x i y 0= []:=fun h=>by unfold jobL;rw [hja,h];simp
 refine calls_x (args:= [_,_]) tabOk Tryz.func87 Tryz.ntmps87 Tryz.results87 rfl (Nat.le_of_ble_eq_true rfl) ?_
 ((conv=>whnf);repeat' ((first|((with_reducible refine cn_id ?_);(refine cn rfl ?_))|((with_reducible refine ld_id ?_);(apply ld_hs hp;(focus repeat' constructor);exact rfl))|((with_reducible refine ldn_id ?_);((refine ldn_rowx hp hB ‹_› ‹_› _ rfl ‹_› rfl ?_)))|((with_reducible refine al_id ?_);(refine al_cel hp ?_;clear hp;intro bb w hp))|((with_reducible refine st_id ?_);(apply sta_hs hp;(focus repeat' constructor);exact rfl;exact rfl;clear hp;intro w hp;(try dsimp only [List.set] at hp)))|((with_reducible refine gen_id ?_);((refine gen_ixs rfl rfl ‹_› rfl rfl (by omega) ?_))))<;>(conv=>whnf)))
 obtain ⟨b5,hb5⟩:∃x,x=bb:=⟨_,rfl⟩
 subst hb5
 obtain ⟨b1,hb1⟩:∃x,x=bb:=⟨_,rfl⟩
 subst hb1
 replace hp:=(hp.nilRow 3 1 iL).pick (rs':= [cel b5 49 (Job.c y).toArray,cel b1 31 x.c.toArray,rowR 3 1 iL Sl.nil]) [1,2,0] (by decide) rfl
 apply lp_share (fun e w=>∃(r:Sl Int) (e0:Nat→Value),r.l=jobL x i y 0∧e=eat [(1,i64 i),(2,ptr b1),(5,ptr b5),(6,r.v),(7,i64 0)] ⟨e0, []⟩∧Hp N0 w0 w [rowR 3 1 iL r,cel b5 49 (Job.c y).toArray,cel b1 31 x.c.toArray])
 ·intro tail
  refine dr_autos [] 1000 tabOk (by kernel_rfl) (by decide+kernel) ?_
  replace hp:=hp.drew
  cases q with
  |false=>
   have h6:=hy6 rfl
   ((conv=>whnf);repeat' ((first|((with_reducible refine br_id ?_);first|(with_reducible refine br_t ?_)|(with_reducible refine br_f ?_)|(with_reducible refine br_not ?_))|((with_reducible refine cn_id ?_);(refine cn ‹_› ?_))|((with_reducible refine ldn_id ?_);(apply lda_hs hp;(focus repeat' constructor);exact rfl))|((with_reducible refine gen_id ?_);first|((refine gen_bs rfl hp el_int iL [6] [i64 6] rfl rfl rfl (fun _ hh=>by simp at hh;subst hh;rfl) (by omega) ?_);clear hp;intro br w hp)|((refine gen_app (s:=Sl.nil) rfl hp 3 rfl el_int rfl ⟨some ⟨br,0,none⟩,1, [6]⟩ rfl (hp.row (j:=0) rfl) (fun _ _=>rfl) int_one (by simp [Sl.nil]) (by simp [Sl.nil,maxLen]) ?_);clear hp;intro A6 c6 w hp;dsimp only [List.set] at hp))|((with_reducible refine cl_id ?_);((refine cl_eq ((hrt hp.chg)) rfl rfl ?_;rintro e w ⟨rfl,hcc⟩;replace hp:=hp.call0 hcc;refine ⟨_,rfl,?_⟩))))<;>(conv=>whnf)))
   exact tail _ _ ⟨⟨A6,c6, [6]⟩,_,h6.symm,eat_holds (by (repeat' (first|exact trivial|(refine ⟨rfl,?_⟩)))),hp.pick [3,1,2] (by decide) rfl⟩
  |true=>
   rw [Bool.true_and,decide_eq_false_iff_not] at hy6
   rw [Bool.true_and,decide_eq_true_eq] at hn6
   ((conv=>whnf);repeat' ((first|((with_reducible refine br_id ?_);first|(with_reducible refine br_t ?_)|(with_reducible refine br_f ?_)|(with_reducible refine br_not ?_)|((with_reducible refine br_dec (fun hx=>?_) (fun hx=>?_))<;>(try (exfalso;first|omega|contradiction))))|((with_reducible refine cn_id ?_);(refine cn ‹_› ?_))|((with_reducible refine ld_id ?_);(apply ld_hs hp;(focus repeat' constructor);exact rfl))|((with_reducible refine ldn_id ?_);first|(apply lda_hs hp;(focus repeat' constructor);exact rfl)|(apply ldn_hs hp;(focus repeat' constructor);exact rfl;exact rfl))|((with_reducible refine gen_id ?_);first|((refine gen_bs rfl hp el_int iL [6] [i64 6] rfl rfl rfl (fun _ hh=>by simp at hh;subst hh;rfl) (by omega) ?_);clear hp;intro br w hp)|((refine gen_app (s:=Sl.nil) rfl hp 3 rfl el_int rfl ⟨some ⟨br,0,none⟩,1, [6]⟩ rfl (hp.row (j:=0) rfl) (fun _ _=>rfl) int_one (by simp [Sl.nil]) (by simp [Sl.nil,maxLen]) ?_);clear hp;intro A6 c6 w hp;dsimp only [List.set] at hp))|((with_reducible refine cl_id ?_);first|((refine cl_eq ((hrt hp.chg)) rfl rfl ?_;rintro e w ⟨rfl,hcc⟩;replace hp:=hp.call0 hcc;refine ⟨_,rfl,?_⟩))|((refine cl_eq ((hfd hp.chg)) rfl rfl ?_;rintro e w ⟨rfl,hcc⟩;replace hp:=hp.call0 hcc;refine ⟨_,rfl,?_⟩)))|((with_reducible refine rd_id ?_);((refine rd_cuth rfl el_job x.jobs rfl hle rfl (h:=i) rfl (by omega) ?_))))<;>(conv=>whnf)))
   all_goals first
    |exact tail _ _ ⟨⟨A6,c6, [6]⟩,_,(hy6 (by omega)).symm,eat_holds (by (repeat' (first|exact trivial|(refine ⟨rfl,?_⟩)))),hp.pick [3,1,2] (by decide) rfl⟩
    |exact tail _ _ ⟨Sl.nil,_,(hn6 (by omega)).symm,eat_holds (by (repeat' (first|exact trivial|(refine ⟨rfl,?_⟩)))),hp.pick [2,0,1] (by decide) rfl⟩
 ·clear hp hrt hfd hmm hm hja hy6 hn6
  rintro e w ⟨r,e0,hr,rfl,hp⟩
  refine lp_inv (α:=Nat×Sl Int) (fun a=> [(1,i64 i),(2,ptr b1),(5,ptr b5),(6,a.2.v),(7,i64 a.1)]) (fun a w=>a.1≤x.win.l.length∧a.2.l=jobL x i y a.1∧Hp N0 w0 w [rowR 3 1 iL a.2,cel b5 49 (Job.c y).toArray,cel b1 31 x.c.toArray]) (fun a=>x.win.l.length - a.1) (0,r) (by (repeat' (first|exact trivial|(refine ⟨rfl,?_⟩)))) ⟨by omega,hr,hp⟩ ?_
  clear hp hr r e0
  rintro ⟨k,r⟩ e0 w ⟨hk,hr,hp⟩
  dsimp only at hk hr hp ⊢
  have hrl:r.l.length≤1+3*k:=by rw [hr];exact jobL_len x i y k
  rcases Nat.lt_or_ge k x.win.l.length with hkl|hkg
  ·obtain ⟨bw,ow,z,hAw,hbw,hroww,hzz⟩:=hs.win.has hkl
   have hzt:=hs.tx z (List.mem_of_getElem? hzz)
   obtain ⟨H,hH⟩:∃H,htQ x k=H:=⟨_,rfl⟩
   have hH2:(x.ht.toNat:Int) - (x.win.l.length:Int)+1+k=H:=hH
   have ar_h:∀{f:Int→Prop},f H→Ar .i64 ((x.ht.toNat:Int) - (x.win.l.length:Int)+1+(k:Int)) f:=fun {f} hh=>ar_i64 (by omega) (by rw [hH2];exact hh)
   obtain ⟨tb,htb⟩:∃q,tirB z y.pay=q:=⟨_,rfl⟩
   obtain ⟨hb,hhb⟩:∃q,decide (y.breach∈z.tx.l)=q:=⟨_,rfl⟩
   have ct:∀{w:World},Chg N0 w0 w→Calls Tryz.prog 151 #[z.v,y.pay.pv] w fun e w'=>e= .returned (.bool tb)∧Chg N0 w w':=fun hc=>by
    rw [←htb]
    exact rtier_any (B:=B) (hzt.keep hc hB) (hya.keep hc hB) hyf
   have ch:∀{w:World},Chg N0 w0 w→Calls Tryz.prog 152 #[z.v,y.breach.v] w fun e w'=>e= .returned (.bool hb)∧Chg N0 w w':=fun hc=>by rw [←hhb];exact has16_any (hzt.keep hc hB) _
   have hone:oneQ x y k=(if (decide (y.mined.toNat=0) && tb)=true then [7] else [])++((if (decide (H=(y.height.toNat:Int)) && !hb)=true then [8] else [])++(if (decide (y.mined.toNat≠0) && (decide (H=(y.mined.toNat:Int)) && !tb))=true then [9] else [])):=by
    unfold oneQ p7 p8 p9
    rw [hzz]
    dsimp only
    rw [hH,htb,hhb]
   have hnx:=jobL_next x i y k
   rw [←hr] at hnx
   clear htb hhb hH hr
   by_cases hm0:y.mined.toNat=0
   ·cases tb with
    |true=>
     by_cases h8:H=(y.height.toNat:Int)
     ·cases hb with
      |true=>
       have h1:oneQ x y k= [7]:=by first|(rw [hone,decide_eq_true hm0,decide_eq_true h8,decide_eq_false (p:=y.mined.toNat≠0) (fun hh=>hh hm0)];done)|(rw [hone,decide_eq_true hm0,decide_eq_true h8,decide_eq_false (p:=y.mined.toNat≠0) (fun hh=>hh hm0)];rfl)
       rw [h1] at hnx
       ((conv=>whnf);repeat' ((first|((with_reducible refine br_id ?_);first|(with_reducible refine br_t ?_)|(with_reducible refine br_f ?_)|(with_reducible refine br_not ?_)|((with_reducible refine br_dec (fun hx=>?_) (fun hx=>?_))<;>(try (exfalso;first|omega|contradiction)))|((with_reducible refine br_eq (fun hx=>?_) (fun hx=>?_))<;>(try (exfalso;first|omega|contradiction)))|((with_reducible refine br_ne (fun hx=>?_) (fun hx=>?_))<;>(try (exfalso;first|omega|contradiction))))|((with_reducible refine ar_id ?_);first|((refine ar_h ?_))|(refine ar_i64 (by omega) ?_))|((with_reducible refine cn_id ?_);(refine cn rfl ?_))|((with_reducible refine ld_id ?_);(apply ld_hs hp;(focus repeat' constructor);exact rfl))|((with_reducible refine ldn_id ?_);first|((refine ldn_rowx hp hB ‹_› ‹_› _ rfl ‹_› rfl ?_))|(apply lda_hs hp;(focus repeat' constructor);exact rfl)|(apply ldn_hs hp;(focus repeat' constructor);exact rfl;exact rfl))|((with_reducible refine al_id ?_);(refine al_cel hp ?_;clear hp;intro bb w hp))|((with_reducible refine st_id ?_);(apply sta_hs hp;(focus repeat' constructor);exact rfl;exact rfl;clear hp;intro w hp;(try dsimp only [List.set] at hp)))|((with_reducible refine gen_id ?_);first|((refine gen_ixs rfl rfl ‹_› rfl rfl (by omega) ?_))|((refine gen_bs rfl hp el_int iL [7] [i64 7] rfl rfl rfl (fun _ hh=>by simp at hh;subst hh;rfl) (by omega) ?_);clear hp;intro br w hp)|((refine gen_app (s:=r) rfl hp 2 rfl el_int rfl ⟨some ⟨br,0,none⟩,1, [7]⟩ rfl (hp.row (j:=0) rfl) (fun _ _=>rfl) int_one (by simp only [List.length_append,List.length_cons,List.length_nil];omega) (by simp only [maxLen,List.length_append,List.length_cons,List.length_nil];omega) ?_);clear hp;intro A7 c7 w hp;dsimp only [List.set] at hp)|(apply gen_len;exact rfl;exact rfl;assumption))|((with_reducible refine cl_id ?_);first|((refine cl_eq ((ct hp.chg)) rfl rfl ?_;rintro e w ⟨rfl,hcc⟩;replace hp:=hp.call0 hcc;refine ⟨_,rfl,?_⟩))|((refine cl_eq ((ch hp.chg)) rfl rfl ?_;rintro e w ⟨rfl,hcc⟩;replace hp:=hp.call0 hcc;refine ⟨_,rfl,?_⟩))))<;>(conv=>whnf)))
       all_goals first
        |(exfalso;omega)
        |exact lp_next (k+1,⟨A7,c7,r.l++ [7]⟩) (by show x.win.l.length - (k+1) < x.win.l.length - k;omega) (by (repeat' (first|exact trivial|(refine ⟨rfl,?_⟩)))) ⟨by show k+1≤_;omega,by show r.l++ [7]=jobL x i y (k+1);first|(rw [hnx];done)|(rw [hnx];simp),hp.pick [2,3,4] (by decide) rfl⟩
      |false=>
       have h1:oneQ x y k= [7,8]:=by first|(rw [hone,decide_eq_true hm0,decide_eq_true h8,decide_eq_false (p:=y.mined.toNat≠0) (fun hh=>hh hm0)];done)|(rw [hone,decide_eq_true hm0,decide_eq_true h8,decide_eq_false (p:=y.mined.toNat≠0) (fun hh=>hh hm0)];rfl)
       rw [h1] at hnx
       ((conv=>whnf);repeat' ((first|((with_reducible refine br_id ?_);first|(with_reducible refine br_t ?_)|(with_reducible refine br_f ?_)|(with_reducible refine br_not ?_)|((with_reducible refine br_dec (fun hx=>?_) (fun hx=>?_))<;>(try (exfalso;first|omega|contradiction)))|((with_reducible refine br_eq (fun hx=>?_) (fun hx=>?_))<;>(try (exfalso;first|omega|contradiction)))|((with_reducible refine br_ne (fun hx=>?_) (fun hx=>?_))<;>(try (exfalso;first|omega|contradiction))))|((with_reducible refine ar_id ?_);first|((refine ar_h ?_))|(refine ar_i64 (by omega) ?_))|((with_reducible refine cn_id ?_);(refine cn rfl ?_))|((with_reducible refine ld_id ?_);(apply ld_hs hp;(focus repeat' constructor);exact rfl))|((with_reducible refine ldn_id ?_);first|((refine ldn_rowx hp hB ‹_› ‹_› _ rfl ‹_› rfl ?_))|(apply lda_hs hp;(focus repeat' constructor);exact rfl)|(apply ldn_hs hp;(focus repeat' constructor);exact rfl;exact rfl))|((with_reducible refine al_id ?_);(refine al_cel hp ?_;clear hp;intro bb w hp))|((with_reducible refine st_id ?_);(apply sta_hs hp;(focus repeat' constructor);exact rfl;exact rfl;clear hp;intro w hp;(try dsimp only [List.set] at hp)))|((with_reducible refine gen_id ?_);first|((refine gen_ixs rfl rfl ‹_› rfl rfl (by omega) ?_))|((refine gen_bs rfl hp el_int iL [7] [i64 7] rfl rfl rfl (fun _ hh=>by simp at hh;subst hh;rfl) (by omega) ?_);clear hp;intro br w hp)|((refine gen_app (s:=r) rfl hp 2 rfl el_int rfl ⟨some ⟨br,0,none⟩,1, [7]⟩ rfl (hp.row (j:=0) rfl) (fun _ _=>rfl) int_one (by simp only [List.length_append,List.length_cons,List.length_nil];omega) (by simp only [maxLen,List.length_append,List.length_cons,List.length_nil];omega) ?_);clear hp;intro A7 c7 w hp;dsimp only [List.set] at hp)|((refine gen_bs rfl hp el_int iL [8] [i64 8] rfl rfl rfl (fun _ hh=>by simp at hh;subst hh;rfl) (by omega) ?_);clear hp;intro br w hp)|((refine gen_app (s:=⟨A7,c7,r.l++ [7]⟩) rfl hp 3 rfl el_int rfl ⟨some ⟨br,0,none⟩,1, [8]⟩ rfl (hp.row (j:=0) rfl) (fun _ _=>rfl) int_one (by simp only [List.length_append,List.length_cons,List.length_nil];omega) (by simp only [maxLen,List.length_append,List.length_cons,List.length_nil];omega) ?_);clear hp;intro A8 c8 w hp;dsimp only [List.set] at hp)|(apply gen_len;exact rfl;exact rfl;assumption))|((with_reducible refine cl_id ?_);first|((refine cl_eq ((ct hp.chg)) rfl rfl ?_;rintro e w ⟨rfl,hcc⟩;replace hp:=hp.call0 hcc;refine ⟨_,rfl,?_⟩))|((refine cl_eq ((ch hp.chg)) rfl rfl ?_;rintro e w ⟨rfl,hcc⟩;replace hp:=hp.call0 hcc;refine ⟨_,rfl,?_⟩))))<;>(conv=>whnf)))
       all_goals first
        |(exfalso;omega)
        |exact lp_next (k+1,⟨A8,c8,(r.l++ [7])++ [8]⟩) (by show x.win.l.length - (k+1) < x.win.l.length - k;omega) (by (repeat' (first|exact trivial|(refine ⟨rfl,?_⟩)))) ⟨by show k+1≤_;omega,by show (r.l++ [7])++ [8]=jobL x i y (k+1);first|(rw [hnx];done)|(rw [hnx];simp),hp.pick [3,4,5] (by decide) rfl⟩
     ·have h1:oneQ x y k= [7]:=by first|(rw [hone,decide_eq_true hm0,decide_eq_false h8,decide_eq_false (p:=y.mined.toNat≠0) (fun hh=>hh hm0)];done)|(rw [hone,decide_eq_true hm0,decide_eq_false h8,decide_eq_false (p:=y.mined.toNat≠0) (fun hh=>hh hm0)];rfl)
      rw [h1] at hnx
      ((conv=>whnf);repeat' ((first|((with_reducible refine br_id ?_);first|(with_reducible refine br_t ?_)|(with_reducible refine br_f ?_)|((with_reducible refine br_dec (fun hx=>?_) (fun hx=>?_))<;>(try (exfalso;first|omega|contradiction)))|((with_reducible refine br_eq (fun hx=>?_) (fun hx=>?_))<;>(try (exfalso;first|omega|contradiction)))|((with_reducible refine br_ne (fun hx=>?_) (fun hx=>?_))<;>(try (exfalso;first|omega|contradiction))))|((with_reducible refine ar_id ?_);first|((refine ar_h ?_))|(refine ar_i64 (by omega) ?_))|((with_reducible refine cn_id ?_);(refine cn rfl ?_))|((with_reducible refine ld_id ?_);(apply ld_hs hp;(focus repeat' constructor);exact rfl))|((with_reducible refine ldn_id ?_);first|((refine ldn_rowx hp hB ‹_› ‹_› _ rfl ‹_› rfl ?_))|(apply lda_hs hp;(focus repeat' constructor);exact rfl)|(apply ldn_hs hp;(focus repeat' constructor);exact rfl;exact rfl))|((with_reducible refine al_id ?_);(refine al_cel hp ?_;clear hp;intro bb w hp))|((with_reducible refine st_id ?_);(apply sta_hs hp;(focus repeat' constructor);exact rfl;exact rfl;clear hp;intro w hp;(try dsimp only [List.set] at hp)))|((with_reducible refine gen_id ?_);first|((refine gen_ixs rfl rfl ‹_› rfl rfl (by omega) ?_))|((refine gen_bs rfl hp el_int iL [7] [i64 7] rfl rfl rfl (fun _ hh=>by simp at hh;subst hh;rfl) (by omega) ?_);clear hp;intro br w hp)|((refine gen_app (s:=r) rfl hp 2 rfl el_int rfl ⟨some ⟨br,0,none⟩,1, [7]⟩ rfl (hp.row (j:=0) rfl) (fun _ _=>rfl) int_one (by simp only [List.length_append,List.length_cons,List.length_nil];omega) (by simp only [maxLen,List.length_append,List.length_cons,List.length_nil];omega) ?_);clear hp;intro A7 c7 w hp;dsimp only [List.set] at hp)|(apply gen_len;exact rfl;exact rfl;assumption))|((with_reducible refine cl_id ?_);((refine cl_eq ((ct hp.chg)) rfl rfl ?_;rintro e w ⟨rfl,hcc⟩;replace hp:=hp.call0 hcc;refine ⟨_,rfl,?_⟩))))<;>(conv=>whnf)))
      all_goals first
       |(exfalso;omega)
       |exact lp_next (k+1,⟨A7,c7,r.l++ [7]⟩) (by show x.win.l.length - (k+1) < x.win.l.length - k;omega) (by (repeat' (first|exact trivial|(refine ⟨rfl,?_⟩)))) ⟨by show k+1≤_;omega,by show r.l++ [7]=jobL x i y (k+1);first|(rw [hnx];done)|(rw [hnx];simp),hp.pick [2,3,4] (by decide) rfl⟩
    |false=>
     by_cases h8:H=(y.height.toNat:Int)
     ·cases hb with
      |true=>
       have h1:oneQ x y k= []:=by first|(rw [hone,decide_eq_true hm0,decide_eq_true h8,decide_eq_false (p:=y.mined.toNat≠0) (fun hh=>hh hm0)];done)|(rw [hone,decide_eq_true hm0,decide_eq_true h8,decide_eq_false (p:=y.mined.toNat≠0) (fun hh=>hh hm0)];rfl)
       rw [h1] at hnx
       ((conv=>whnf);repeat' ((first|((with_reducible refine br_id ?_);first|(with_reducible refine br_t ?_)|(with_reducible refine br_f ?_)|(with_reducible refine br_not ?_)|((with_reducible refine br_dec (fun hx=>?_) (fun hx=>?_))<;>(try (exfalso;first|omega|contradiction)))|((with_reducible refine br_eq (fun hx=>?_) (fun hx=>?_))<;>(try (exfalso;first|omega|contradiction)))|((with_reducible refine br_ne (fun hx=>?_) (fun hx=>?_))<;>(try (exfalso;first|omega|contradiction))))|((with_reducible refine ar_id ?_);first|((refine ar_h ?_))|(refine ar_i64 (by omega) ?_))|((with_reducible refine cn_id ?_);(refine cn rfl ?_))|((with_reducible refine ld_id ?_);(apply ld_hs hp;(focus repeat' constructor);exact rfl))|((with_reducible refine ldn_id ?_);first|((refine ldn_rowx hp hB ‹_› ‹_› _ rfl ‹_› rfl ?_))|(apply lda_hs hp;(focus repeat' constructor);exact rfl)|(apply ldn_hs hp;(focus repeat' constructor);exact rfl;exact rfl))|((with_reducible refine al_id ?_);(refine al_cel hp ?_;clear hp;intro bb w hp))|((with_reducible refine st_id ?_);(apply sta_hs hp;(focus repeat' constructor);exact rfl;exact rfl;clear hp;intro w hp;(try dsimp only [List.set] at hp)))|((with_reducible refine gen_id ?_);first|((refine gen_ixs rfl rfl ‹_› rfl rfl (by omega) ?_))|(apply gen_len;exact rfl;exact rfl;assumption))|((with_reducible refine cl_id ?_);first|((refine cl_eq ((ct hp.chg)) rfl rfl ?_;rintro e w ⟨rfl,hcc⟩;replace hp:=hp.call0 hcc;refine ⟨_,rfl,?_⟩))|((refine cl_eq ((ch hp.chg)) rfl rfl ?_;rintro e w ⟨rfl,hcc⟩;replace hp:=hp.call0 hcc;refine ⟨_,rfl,?_⟩))))<;>(conv=>whnf)))
       all_goals first
        |(exfalso;omega)
        |exact lp_next (k+1,r) (by show x.win.l.length - (k+1) < x.win.l.length - k;omega) (by (repeat' (first|exact trivial|(refine ⟨rfl,?_⟩)))) ⟨by show k+1≤_;omega,by show r.l=jobL x i y (k+1);first|(rw [hnx];done)|(rw [hnx];simp),hp.pick [1,2,3] (by decide) rfl⟩
      |false=>
       have h1:oneQ x y k= [8]:=by first|(rw [hone,decide_eq_true hm0,decide_eq_true h8,decide_eq_false (p:=y.mined.toNat≠0) (fun hh=>hh hm0)];done)|(rw [hone,decide_eq_true hm0,decide_eq_true h8,decide_eq_false (p:=y.mined.toNat≠0) (fun hh=>hh hm0)];rfl)
       rw [h1] at hnx
       ((conv=>whnf);repeat' ((first|((with_reducible refine br_id ?_);first|(with_reducible refine br_t ?_)|(with_reducible refine br_f ?_)|(with_reducible refine br_not ?_)|((with_reducible refine br_dec (fun hx=>?_) (fun hx=>?_))<;>(try (exfalso;first|omega|contradiction)))|((with_reducible refine br_eq (fun hx=>?_) (fun hx=>?_))<;>(try (exfalso;first|omega|contradiction)))|((with_reducible refine br_ne (fun hx=>?_) (fun hx=>?_))<;>(try (exfalso;first|omega|contradiction))))|((with_reducible refine ar_id ?_);first|((refine ar_h ?_))|(refine ar_i64 (by omega) ?_))|((with_reducible refine cn_id ?_);(refine cn rfl ?_))|((with_reducible refine ld_id ?_);(apply ld_hs hp;(focus repeat' constructor);exact rfl))|((with_reducible refine ldn_id ?_);first|((refine ldn_rowx hp hB ‹_› ‹_› _ rfl ‹_› rfl ?_))|(apply lda_hs hp;(focus repeat' constructor);exact rfl)|(apply ldn_hs hp;(focus repeat' constructor);exact rfl;exact rfl))|((with_reducible refine al_id ?_);(refine al_cel hp ?_;clear hp;intro bb w hp))|((with_reducible refine st_id ?_);(apply sta_hs hp;(focus repeat' constructor);exact rfl;exact rfl;clear hp;intro w hp;(try dsimp only [List.set] at hp)))|((with_reducible refine gen_id ?_);first|((refine gen_ixs rfl rfl ‹_› rfl rfl (by omega) ?_))|((refine gen_bs rfl hp el_int iL [8] [i64 8] rfl rfl rfl (fun _ hh=>by simp at hh;subst hh;rfl) (by omega) ?_);clear hp;intro br w hp)|((refine gen_app (s:=r) rfl hp 2 rfl el_int rfl ⟨some ⟨br,0,none⟩,1, [8]⟩ rfl (hp.row (j:=0) rfl) (fun _ _=>rfl) int_one (by simp only [List.length_append,List.length_cons,List.length_nil];omega) (by simp only [maxLen,List.length_append,List.length_cons,List.length_nil];omega) ?_);clear hp;intro A8 c8 w hp;dsimp only [List.set] at hp)|(apply gen_len;exact rfl;exact rfl;assumption))|((with_reducible refine cl_id ?_);first|((refine cl_eq ((ct hp.chg)) rfl rfl ?_;rintro e w ⟨rfl,hcc⟩;replace hp:=hp.call0 hcc;refine ⟨_,rfl,?_⟩))|((refine cl_eq ((ch hp.chg)) rfl rfl ?_;rintro e w ⟨rfl,hcc⟩;replace hp:=hp.call0 hcc;refine ⟨_,rfl,?_⟩))))<;>(conv=>whnf)))
       all_goals first
        |(exfalso;omega)
        |exact lp_next (k+1,⟨A8,c8,r.l++ [8]⟩) (by show x.win.l.length - (k+1) < x.win.l.length - k;omega) (by (repeat' (first|exact trivial|(refine ⟨rfl,?_⟩)))) ⟨by show k+1≤_;omega,by show r.l++ [8]=jobL x i y (k+1);first|(rw [hnx];done)|(rw [hnx];simp),hp.pick [2,3,4] (by decide) rfl⟩
     ·have h1:oneQ x y k= []:=by first|(rw [hone,decide_eq_true hm0,decide_eq_false h8,decide_eq_false (p:=y.mined.toNat≠0) (fun hh=>hh hm0)];done)|(rw [hone,decide_eq_true hm0,decide_eq_false h8,decide_eq_false (p:=y.mined.toNat≠0) (fun hh=>hh hm0)];rfl)
      rw [h1] at hnx
      ((conv=>whnf);repeat' ((first|((with_reducible refine br_id ?_);first|(with_reducible refine br_t ?_)|(with_reducible refine br_f ?_)|((with_reducible refine br_dec (fun hx=>?_) (fun hx=>?_))<;>(try (exfalso;first|omega|contradiction)))|((with_reducible refine br_eq (fun hx=>?_) (fun hx=>?_))<;>(try (exfalso;first|omega|contradiction)))|((with_reducible refine br_ne (fun hx=>?_) (fun hx=>?_))<;>(try (exfalso;first|omega|contradiction))))|((with_reducible refine ar_id ?_);first|((refine ar_h ?_))|(refine ar_i64 (by omega) ?_))|((with_reducible refine cn_id ?_);(refine cn rfl ?_))|((with_reducible refine ld_id ?_);(apply ld_hs hp;(focus repeat' constructor);exact rfl))|((with_reducible refine ldn_id ?_);first|((refine ldn_rowx hp hB ‹_› ‹_› _ rfl ‹_› rfl ?_))|(apply lda_hs hp;(focus repeat' constructor);exact rfl)|(apply ldn_hs hp;(focus repeat' constructor);exact rfl;exact rfl))|((with_reducible refine al_id ?_);(refine al_cel hp ?_;clear hp;intro bb w hp))|((with_reducible refine st_id ?_);(apply sta_hs hp;(focus repeat' constructor);exact rfl;exact rfl;clear hp;intro w hp;(try dsimp only [List.set] at hp)))|((with_reducible refine gen_id ?_);first|((refine gen_ixs rfl rfl ‹_› rfl rfl (by omega) ?_))|(apply gen_len;exact rfl;exact rfl;assumption))|((with_reducible refine cl_id ?_);((refine cl_eq ((ct hp.chg)) rfl rfl ?_;rintro e w ⟨rfl,hcc⟩;replace hp:=hp.call0 hcc;refine ⟨_,rfl,?_⟩))))<;>(conv=>whnf)))
      all_goals first
       |(exfalso;omega)
       |exact lp_next (k+1,r) (by show x.win.l.length - (k+1) < x.win.l.length - k;omega) (by (repeat' (first|exact trivial|(refine ⟨rfl,?_⟩)))) ⟨by show k+1≤_;omega,by show r.l=jobL x i y (k+1);first|(rw [hnx];done)|(rw [hnx];simp),hp.pick [1,2,3] (by decide) rfl⟩
   ·by_cases h8:H=(y.height.toNat:Int)
    ·cases hb with
     |true=>
      by_cases h9:H=(y.mined.toNat:Int)
      ·cases tb with
       |true=>
        have h1:oneQ x y k= []:=by first|(rw [hone,decide_eq_false hm0,decide_eq_true h8,decide_eq_true (p:=y.mined.toNat≠0) hm0,decide_eq_true h9];done)|(rw [hone,decide_eq_false hm0,decide_eq_true h8,decide_eq_true (p:=y.mined.toNat≠0) hm0,decide_eq_true h9];rfl)
        rw [h1] at hnx
        ((conv=>whnf);repeat' ((first|((with_reducible refine br_id ?_);first|(with_reducible refine br_t ?_)|(with_reducible refine br_f ?_)|(with_reducible refine br_not ?_)|((with_reducible refine br_dec (fun hx=>?_) (fun hx=>?_))<;>(try (exfalso;first|omega|contradiction)))|((with_reducible refine br_eq (fun hx=>?_) (fun hx=>?_))<;>(try (exfalso;first|omega|contradiction)))|((with_reducible refine br_ne (fun hx=>?_) (fun hx=>?_))<;>(try (exfalso;first|omega|contradiction))))|((with_reducible refine ar_id ?_);first|((refine ar_h ?_))|(refine ar_i64 (by omega) ?_))|((with_reducible refine cn_id ?_);(refine cn rfl ?_))|((with_reducible refine ld_id ?_);(apply ld_hs hp;(focus repeat' constructor);exact rfl))|((with_reducible refine ldn_id ?_);first|((refine ldn_rowx hp hB ‹_› ‹_› _ rfl ‹_› rfl ?_))|(apply lda_hs hp;(focus repeat' constructor);exact rfl)|(apply ldn_hs hp;(focus repeat' constructor);exact rfl;exact rfl))|((with_reducible refine al_id ?_);(refine al_cel hp ?_;clear hp;intro bb w hp))|((with_reducible refine st_id ?_);(apply sta_hs hp;(focus repeat' constructor);exact rfl;exact rfl;clear hp;intro w hp;(try dsimp only [List.set] at hp)))|((with_reducible refine gen_id ?_);first|((refine gen_ixs rfl rfl ‹_› rfl rfl (by omega) ?_))|(apply gen_len;exact rfl;exact rfl;assumption))|((with_reducible refine cl_id ?_);first|((refine cl_eq ((ct hp.chg)) rfl rfl ?_;rintro e w ⟨rfl,hcc⟩;replace hp:=hp.call0 hcc;refine ⟨_,rfl,?_⟩))|((refine cl_eq ((ch hp.chg)) rfl rfl ?_;rintro e w ⟨rfl,hcc⟩;replace hp:=hp.call0 hcc;refine ⟨_,rfl,?_⟩))))<;>(conv=>whnf)))
        all_goals first
         |(exfalso;omega)
         |exact lp_next (k+1,r) (by show x.win.l.length - (k+1) < x.win.l.length - k;omega) (by (repeat' (first|exact trivial|(refine ⟨rfl,?_⟩)))) ⟨by show k+1≤_;omega,by show r.l=jobL x i y (k+1);first|(rw [hnx];done)|(rw [hnx];simp),hp.pick [1,2,3] (by decide) rfl⟩
       |false=>
        have h1:oneQ x y k= [9]:=by first|(rw [hone,decide_eq_false hm0,decide_eq_true h8,decide_eq_true (p:=y.mined.toNat≠0) hm0,decide_eq_true h9];done)|(rw [hone,decide_eq_false hm0,decide_eq_true h8,decide_eq_true (p:=y.mined.toNat≠0) hm0,decide_eq_true h9];rfl)
        rw [h1] at hnx
        ((conv=>whnf);repeat' ((first|((with_reducible refine br_id ?_);first|(with_reducible refine br_t ?_)|(with_reducible refine br_f ?_)|(with_reducible refine br_not ?_)|((with_reducible refine br_dec (fun hx=>?_) (fun hx=>?_))<;>(try (exfalso;first|omega|contradiction)))|((with_reducible refine br_eq (fun hx=>?_) (fun hx=>?_))<;>(try (exfalso;first|omega|contradiction)))|((with_reducible refine br_ne (fun hx=>?_) (fun hx=>?_))<;>(try (exfalso;first|omega|contradiction))))|((with_reducible refine ar_id ?_);first|((refine ar_h ?_))|(refine ar_i64 (by omega) ?_))|((with_reducible refine cn_id ?_);(refine cn rfl ?_))|((with_reducible refine ld_id ?_);(apply ld_hs hp;(focus repeat' constructor);exact rfl))|((with_reducible refine ldn_id ?_);first|((refine ldn_rowx hp hB ‹_› ‹_› _ rfl ‹_› rfl ?_))|(apply lda_hs hp;(focus repeat' constructor);exact rfl)|(apply ldn_hs hp;(focus repeat' constructor);exact rfl;exact rfl))|((with_reducible refine al_id ?_);(refine al_cel hp ?_;clear hp;intro bb w hp))|((with_reducible refine st_id ?_);(apply sta_hs hp;(focus repeat' constructor);exact rfl;exact rfl;clear hp;intro w hp;(try dsimp only [List.set] at hp)))|((with_reducible refine gen_id ?_);first|((refine gen_ixs rfl rfl ‹_› rfl rfl (by omega) ?_))|((refine gen_bs rfl hp el_int iL [9] [i64 9] rfl rfl rfl (fun _ hh=>by simp at hh;subst hh;rfl) (by omega) ?_);clear hp;intro br w hp)|((refine gen_app (s:=r) rfl hp 2 rfl el_int rfl ⟨some ⟨br,0,none⟩,1, [9]⟩ rfl (hp.row (j:=0) rfl) (fun _ _=>rfl) int_one (by simp only [List.length_append,List.length_cons,List.length_nil];omega) (by simp only [maxLen,List.length_append,List.length_cons,List.length_nil];omega) ?_);clear hp;intro A9 c9 w hp;dsimp only [List.set] at hp)|(apply gen_len;exact rfl;exact rfl;assumption))|((with_reducible refine cl_id ?_);first|((refine cl_eq ((ct hp.chg)) rfl rfl ?_;rintro e w ⟨rfl,hcc⟩;replace hp:=hp.call0 hcc;refine ⟨_,rfl,?_⟩))|((refine cl_eq ((ch hp.chg)) rfl rfl ?_;rintro e w ⟨rfl,hcc⟩;replace hp:=hp.call0 hcc;refine ⟨_,rfl,?_⟩))))<;>(conv=>whnf)))
        all_goals first
         |(exfalso;omega)
         |exact lp_next (k+1,⟨A9,c9,r.l++ [9]⟩) (by show x.win.l.length - (k+1) < x.win.l.length - k;omega) (by (repeat' (first|exact trivial|(refine ⟨rfl,?_⟩)))) ⟨by show k+1≤_;omega,by show r.l++ [9]=jobL x i y (k+1);first|(rw [hnx];done)|(rw [hnx];simp),hp.pick [2,3,4] (by decide) rfl⟩
      ·have h1:oneQ x y k= []:=by first|(rw [hone,decide_eq_false hm0,decide_eq_true h8,decide_eq_true (p:=y.mined.toNat≠0) hm0,decide_eq_false h9];done)|(rw [hone,decide_eq_false hm0,decide_eq_true h8,decide_eq_true (p:=y.mined.toNat≠0) hm0,decide_eq_false h9];rfl)
       rw [h1] at hnx
       ((conv=>whnf);repeat' ((first|((with_reducible refine br_id ?_);first|(with_reducible refine br_t ?_)|(with_reducible refine br_f ?_)|(with_reducible refine br_not ?_)|((with_reducible refine br_dec (fun hx=>?_) (fun hx=>?_))<;>(try (exfalso;first|omega|contradiction)))|((with_reducible refine br_eq (fun hx=>?_) (fun hx=>?_))<;>(try (exfalso;first|omega|contradiction)))|((with_reducible refine br_ne (fun hx=>?_) (fun hx=>?_))<;>(try (exfalso;first|omega|contradiction))))|((with_reducible refine ar_id ?_);first|((refine ar_h ?_))|(refine ar_i64 (by omega) ?_))|((with_reducible refine cn_id ?_);(refine cn rfl ?_))|((with_reducible refine ld_id ?_);(apply ld_hs hp;(focus repeat' constructor);exact rfl))|((with_reducible refine ldn_id ?_);first|((refine ldn_rowx hp hB ‹_› ‹_› _ rfl ‹_› rfl ?_))|(apply lda_hs hp;(focus repeat' constructor);exact rfl)|(apply ldn_hs hp;(focus repeat' constructor);exact rfl;exact rfl))|((with_reducible refine al_id ?_);(refine al_cel hp ?_;clear hp;intro bb w hp))|((with_reducible refine st_id ?_);(apply sta_hs hp;(focus repeat' constructor);exact rfl;exact rfl;clear hp;intro w hp;(try dsimp only [List.set] at hp)))|((with_reducible refine gen_id ?_);first|((refine gen_ixs rfl rfl ‹_› rfl rfl (by omega) ?_))|(apply gen_len;exact rfl;exact rfl;assumption))|((with_reducible refine cl_id ?_);((refine cl_eq ((ch hp.chg)) rfl rfl ?_;rintro e w ⟨rfl,hcc⟩;replace hp:=hp.call0 hcc;refine ⟨_,rfl,?_⟩))))<;>(conv=>whnf)))
       all_goals first
        |(exfalso;omega)
        |exact lp_next (k+1,r) (by show x.win.l.length - (k+1) < x.win.l.length - k;omega) (by (repeat' (first|exact trivial|(refine ⟨rfl,?_⟩)))) ⟨by show k+1≤_;omega,by show r.l=jobL x i y (k+1);first|(rw [hnx];done)|(rw [hnx];simp),hp.pick [1,2,3] (by decide) rfl⟩
     |false=>
      by_cases h9:H=(y.mined.toNat:Int)
      ·cases tb with
       |true=>
        have h1:oneQ x y k= [8]:=by first|(rw [hone,decide_eq_false hm0,decide_eq_true h8,decide_eq_true (p:=y.mined.toNat≠0) hm0,decide_eq_true h9];done)|(rw [hone,decide_eq_false hm0,decide_eq_true h8,decide_eq_true (p:=y.mined.toNat≠0) hm0,decide_eq_true h9];rfl)
        rw [h1] at hnx
        ((conv=>whnf);repeat' ((first|((with_reducible refine br_id ?_);first|(with_reducible refine br_t ?_)|(with_reducible refine br_f ?_)|(with_reducible refine br_not ?_)|((with_reducible refine br_dec (fun hx=>?_) (fun hx=>?_))<;>(try (exfalso;first|omega|contradiction)))|((with_reducible refine br_eq (fun hx=>?_) (fun hx=>?_))<;>(try (exfalso;first|omega|contradiction)))|((with_reducible refine br_ne (fun hx=>?_) (fun hx=>?_))<;>(try (exfalso;first|omega|contradiction))))|((with_reducible refine ar_id ?_);first|((refine ar_h ?_))|(refine ar_i64 (by omega) ?_))|((with_reducible refine cn_id ?_);(refine cn rfl ?_))|((with_reducible refine ld_id ?_);(apply ld_hs hp;(focus repeat' constructor);exact rfl))|((with_reducible refine ldn_id ?_);first|((refine ldn_rowx hp hB ‹_› ‹_› _ rfl ‹_› rfl ?_))|(apply lda_hs hp;(focus repeat' constructor);exact rfl)|(apply ldn_hs hp;(focus repeat' constructor);exact rfl;exact rfl))|((with_reducible refine al_id ?_);(refine al_cel hp ?_;clear hp;intro bb w hp))|((with_reducible refine st_id ?_);(apply sta_hs hp;(focus repeat' constructor);exact rfl;exact rfl;clear hp;intro w hp;(try dsimp only [List.set] at hp)))|((with_reducible refine gen_id ?_);first|((refine gen_ixs rfl rfl ‹_› rfl rfl (by omega) ?_))|((refine gen_bs rfl hp el_int iL [8] [i64 8] rfl rfl rfl (fun _ hh=>by simp at hh;subst hh;rfl) (by omega) ?_);clear hp;intro br w hp)|((refine gen_app (s:=r) rfl hp 2 rfl el_int rfl ⟨some ⟨br,0,none⟩,1, [8]⟩ rfl (hp.row (j:=0) rfl) (fun _ _=>rfl) int_one (by simp only [List.length_append,List.length_cons,List.length_nil];omega) (by simp only [maxLen,List.length_append,List.length_cons,List.length_nil];omega) ?_);clear hp;intro A8 c8 w hp;dsimp only [List.set] at hp)|(apply gen_len;exact rfl;exact rfl;assumption))|((with_reducible refine cl_id ?_);first|((refine cl_eq ((ct hp.chg)) rfl rfl ?_;rintro e w ⟨rfl,hcc⟩;replace hp:=hp.call0 hcc;refine ⟨_,rfl,?_⟩))|((refine cl_eq ((ch hp.chg)) rfl rfl ?_;rintro e w ⟨rfl,hcc⟩;replace hp:=hp.call0 hcc;refine ⟨_,rfl,?_⟩))))<;>(conv=>whnf)))
        all_goals first
         |(exfalso;omega)
         |exact lp_next (k+1,⟨A8,c8,r.l++ [8]⟩) (by show x.win.l.length - (k+1) < x.win.l.length - k;omega) (by (repeat' (first|exact trivial|(refine ⟨rfl,?_⟩)))) ⟨by show k+1≤_;omega,by show r.l++ [8]=jobL x i y (k+1);first|(rw [hnx];done)|(rw [hnx];simp),hp.pick [2,3,4] (by decide) rfl⟩
       |false=>
        have h1:oneQ x y k= [8,9]:=by first|(rw [hone,decide_eq_false hm0,decide_eq_true h8,decide_eq_true (p:=y.mined.toNat≠0) hm0,decide_eq_true h9];done)|(rw [hone,decide_eq_false hm0,decide_eq_true h8,decide_eq_true (p:=y.mined.toNat≠0) hm0,decide_eq_true h9];rfl)
        rw [h1] at hnx
        ((conv=>whnf);repeat' ((first|((with_reducible refine br_id ?_);first|(with_reducible refine br_t ?_)|(with_reducible refine br_f ?_)|(with_reducible refine br_not ?_)|((with_reducible refine br_dec (fun hx=>?_) (fun hx=>?_))<;>(try (exfalso;first|omega|contradiction)))|((with_reducible refine br_eq (fun hx=>?_) (fun hx=>?_))<;>(try (exfalso;first|omega|contradiction)))|((with_reducible refine br_ne (fun hx=>?_) (fun hx=>?_))<;>(try (exfalso;first|omega|contradiction))))|((with_reducible refine ar_id ?_);first|((refine ar_h ?_))|(refine ar_i64 (by omega) ?_))|((with_reducible refine cn_id ?_);(refine cn rfl ?_))|((with_reducible refine ld_id ?_);(apply ld_hs hp;(focus repeat' constructor);exact rfl))|((with_reducible refine ldn_id ?_);first|((refine ldn_rowx hp hB ‹_› ‹_› _ rfl ‹_› rfl ?_))|(apply lda_hs hp;(focus repeat' constructor);exact rfl)|(apply ldn_hs hp;(focus repeat' constructor);exact rfl;exact rfl))|((with_reducible refine al_id ?_);(refine al_cel hp ?_;clear hp;intro bb w hp))|((with_reducible refine st_id ?_);(apply sta_hs hp;(focus repeat' constructor);exact rfl;exact rfl;clear hp;intro w hp;(try dsimp only [List.set] at hp)))|((with_reducible refine gen_id ?_);first|((refine gen_ixs rfl rfl ‹_› rfl rfl (by omega) ?_))|((refine gen_bs rfl hp el_int iL [8] [i64 8] rfl rfl rfl (fun _ hh=>by simp at hh;subst hh;rfl) (by omega) ?_);clear hp;intro br w hp)|((refine gen_app (s:=r) rfl hp 2 rfl el_int rfl ⟨some ⟨br,0,none⟩,1, [8]⟩ rfl (hp.row (j:=0) rfl) (fun _ _=>rfl) int_one (by simp only [List.length_append,List.length_cons,List.length_nil];omega) (by simp only [maxLen,List.length_append,List.length_cons,List.length_nil];omega) ?_);clear hp;intro A8 c8 w hp;dsimp only [List.set] at hp)|((refine gen_bs rfl hp el_int iL [9] [i64 9] rfl rfl rfl (fun _ hh=>by simp at hh;subst hh;rfl) (by omega) ?_);clear hp;intro br w hp)|((refine gen_app (s:=⟨A8,c8,r.l++ [8]⟩) rfl hp 3 rfl el_int rfl ⟨some ⟨br,0,none⟩,1, [9]⟩ rfl (hp.row (j:=0) rfl) (fun _ _=>rfl) int_one (by simp only [List.length_append,List.length_cons,List.length_nil];omega) (by simp only [maxLen,List.length_append,List.length_cons,List.length_nil];omega) ?_);clear hp;intro A9 c9 w hp;dsimp only [List.set] at hp)|(apply gen_len;exact rfl;exact rfl;assumption))|((with_reducible refine cl_id ?_);first|((refine cl_eq ((ct hp.chg)) rfl rfl ?_;rintro e w ⟨rfl,hcc⟩;replace hp:=hp.call0 hcc;refine ⟨_,rfl,?_⟩))|((refine cl_eq ((ch hp.chg)) rfl rfl ?_;rintro e w ⟨rfl,hcc⟩;replace hp:=hp.call0 hcc;refine ⟨_,rfl,?_⟩))))<;>(conv=>whnf)))
        all_goals first
         |(exfalso;omega)
         |exact lp_next (k+1,⟨A9,c9,(r.l++ [8])++ [9]⟩) (by show x.win.l.length - (k+1) < x.win.l.length - k;omega) (by (repeat' (first|exact trivial|(refine ⟨rfl,?_⟩)))) ⟨by show k+1≤_;omega,by show (r.l++ [8])++ [9]=jobL x i y (k+1);first|(rw [hnx];done)|(rw [hnx];simp),hp.pick [3,4,5] (by decide) rfl⟩
      ·have h1:oneQ x y k= [8]:=by first|(rw [hone,decide_eq_false hm0,decide_eq_true h8,decide_eq_true (p:=y.mined.toNat≠0) hm0,decide_eq_false h9];done)|(rw [hone,decide_eq_false hm0,decide_eq_true h8,decide_eq_true (p:=y.mined.toNat≠0) hm0,decide_eq_false h9];rfl)
       rw [h1] at hnx
       ((conv=>whnf);repeat' ((first|((with_reducible refine br_id ?_);first|(with_reducible refine br_t ?_)|(with_reducible refine br_f ?_)|(with_reducible refine br_not ?_)|((with_reducible refine br_dec (fun hx=>?_) (fun hx=>?_))<;>(try (exfalso;first|omega|contradiction)))|((with_reducible refine br_eq (fun hx=>?_) (fun hx=>?_))<;>(try (exfalso;first|omega|contradiction)))|((with_reducible refine br_ne (fun hx=>?_) (fun hx=>?_))<;>(try (exfalso;first|omega|contradiction))))|((with_reducible refine ar_id ?_);first|((refine ar_h ?_))|(refine ar_i64 (by omega) ?_))|((with_reducible refine cn_id ?_);(refine cn rfl ?_))|((with_reducible refine ld_id ?_);(apply ld_hs hp;(focus repeat' constructor);exact rfl))|((with_reducible refine ldn_id ?_);first|((refine ldn_rowx hp hB ‹_› ‹_› _ rfl ‹_› rfl ?_))|(apply lda_hs hp;(focus repeat' constructor);exact rfl)|(apply ldn_hs hp;(focus repeat' constructor);exact rfl;exact rfl))|((with_reducible refine al_id ?_);(refine al_cel hp ?_;clear hp;intro bb w hp))|((with_reducible refine st_id ?_);(apply sta_hs hp;(focus repeat' constructor);exact rfl;exact rfl;clear hp;intro w hp;(try dsimp only [List.set] at hp)))|((with_reducible refine gen_id ?_);first|((refine gen_ixs rfl rfl ‹_› rfl rfl (by omega) ?_))|((refine gen_bs rfl hp el_int iL [8] [i64 8] rfl rfl rfl (fun _ hh=>by simp at hh;subst hh;rfl) (by omega) ?_);clear hp;intro br w hp)|((refine gen_app (s:=r) rfl hp 2 rfl el_int rfl ⟨some ⟨br,0,none⟩,1, [8]⟩ rfl (hp.row (j:=0) rfl) (fun _ _=>rfl) int_one (by simp only [List.length_append,List.length_cons,List.length_nil];omega) (by simp only [maxLen,List.length_append,List.length_cons,List.length_nil];omega) ?_);clear hp;intro A8 c8 w hp;dsimp only [List.set] at hp)|(apply gen_len;exact rfl;exact rfl;assumption))|((with_reducible refine cl_id ?_);((refine cl_eq ((ch hp.chg)) rfl rfl ?_;rintro e w ⟨rfl,hcc⟩;replace hp:=hp.call0 hcc;refine ⟨_,rfl,?_⟩))))<;>(conv=>whnf)))
       all_goals first
        |(exfalso;omega)
        |exact lp_next (k+1,⟨A8,c8,r.l++ [8]⟩) (by show x.win.l.length - (k+1) < x.win.l.length - k;omega) (by (repeat' (first|exact trivial|(refine ⟨rfl,?_⟩)))) ⟨by show k+1≤_;omega,by show r.l++ [8]=jobL x i y (k+1);first|(rw [hnx];done)|(rw [hnx];simp),hp.pick [2,3,4] (by decide) rfl⟩
    ·by_cases h9:H=(y.mined.toNat:Int)
     ·cases tb with
      |true=>
       have h1:oneQ x y k= []:=by first|(rw [hone,decide_eq_false hm0,decide_eq_false h8,decide_eq_true (p:=y.mined.toNat≠0) hm0,decide_eq_true h9];done)|(rw [hone,decide_eq_false hm0,decide_eq_false h8,decide_eq_true (p:=y.mined.toNat≠0) hm0,decide_eq_true h9];rfl)
       rw [h1] at hnx
       ((conv=>whnf);repeat' ((first|((with_reducible refine br_id ?_);first|(with_reducible refine br_t ?_)|(with_reducible refine br_f ?_)|(with_reducible refine br_not ?_)|((with_reducible refine br_dec (fun hx=>?_) (fun hx=>?_))<;>(try (exfalso;first|omega|contradiction)))|((with_reducible refine br_eq (fun hx=>?_) (fun hx=>?_))<;>(try (exfalso;first|omega|contradiction)))|((with_reducible refine br_ne (fun hx=>?_) (fun hx=>?_))<;>(try (exfalso;first|omega|contradiction))))|((with_reducible refine ar_id ?_);first|((refine ar_h ?_))|(refine ar_i64 (by omega) ?_))|((with_reducible refine cn_id ?_);(refine cn rfl ?_))|((with_reducible refine ld_id ?_);(apply ld_hs hp;(focus repeat' constructor);exact rfl))|((with_reducible refine ldn_id ?_);first|((refine ldn_rowx hp hB ‹_› ‹_› _ rfl ‹_› rfl ?_))|(apply lda_hs hp;(focus repeat' constructor);exact rfl)|(apply ldn_hs hp;(focus repeat' constructor);exact rfl;exact rfl))|((with_reducible refine al_id ?_);(refine al_cel hp ?_;clear hp;intro bb w hp))|((with_reducible refine st_id ?_);(apply sta_hs hp;(focus repeat' constructor);exact rfl;exact rfl;clear hp;intro w hp;(try dsimp only [List.set] at hp)))|((with_reducible refine gen_id ?_);first|((refine gen_ixs rfl rfl ‹_› rfl rfl (by omega) ?_))|(apply gen_len;exact rfl;exact rfl;assumption))|((with_reducible refine cl_id ?_);((refine cl_eq ((ct hp.chg)) rfl rfl ?_;rintro e w ⟨rfl,hcc⟩;replace hp:=hp.call0 hcc;refine ⟨_,rfl,?_⟩))))<;>(conv=>whnf)))
       all_goals first
        |(exfalso;omega)
        |exact lp_next (k+1,r) (by show x.win.l.length - (k+1) < x.win.l.length - k;omega) (by (repeat' (first|exact trivial|(refine ⟨rfl,?_⟩)))) ⟨by show k+1≤_;omega,by show r.l=jobL x i y (k+1);first|(rw [hnx];done)|(rw [hnx];simp),hp.pick [1,2,3] (by decide) rfl⟩
      |false=>
       have h1:oneQ x y k= [9]:=by first|(rw [hone,decide_eq_false hm0,decide_eq_false h8,decide_eq_true (p:=y.mined.toNat≠0) hm0,decide_eq_true h9];done)|(rw [hone,decide_eq_false hm0,decide_eq_false h8,decide_eq_true (p:=y.mined.toNat≠0) hm0,decide_eq_true h9];rfl)
       rw [h1] at hnx
       ((conv=>whnf);repeat' ((first|((with_reducible refine br_id ?_);first|(with_reducible refine br_t ?_)|(with_reducible refine br_f ?_)|(with_reducible refine br_not ?_)|((with_reducible refine br_dec (fun hx=>?_) (fun hx=>?_))<;>(try (exfalso;first|omega|contradiction)))|((with_reducible refine br_eq (fun hx=>?_) (fun hx=>?_))<;>(try (exfalso;first|omega|contradiction)))|((with_reducible refine br_ne (fun hx=>?_) (fun hx=>?_))<;>(try (exfalso;first|omega|contradiction))))|((with_reducible refine ar_id ?_);first|((refine ar_h ?_))|(refine ar_i64 (by omega) ?_))|((with_reducible refine cn_id ?_);(refine cn rfl ?_))|((with_reducible refine ld_id ?_);(apply ld_hs hp;(focus repeat' constructor);exact rfl))|((with_reducible refine ldn_id ?_);first|((refine ldn_rowx hp hB ‹_› ‹_› _ rfl ‹_› rfl ?_))|(apply lda_hs hp;(focus repeat' constructor);exact rfl)|(apply ldn_hs hp;(focus repeat' constructor);exact rfl;exact rfl))|((with_reducible refine al_id ?_);(refine al_cel hp ?_;clear hp;intro bb w hp))|((with_reducible refine st_id ?_);(apply sta_hs hp;(focus repeat' constructor);exact rfl;exact rfl;clear hp;intro w hp;(try dsimp only [List.set] at hp)))|((with_reducible refine gen_id ?_);first|((refine gen_ixs rfl rfl ‹_› rfl rfl (by omega) ?_))|((refine gen_bs rfl hp el_int iL [9] [i64 9] rfl rfl rfl (fun _ hh=>by simp at hh;subst hh;rfl) (by omega) ?_);clear hp;intro br w hp)|((refine gen_app (s:=r) rfl hp 2 rfl el_int rfl ⟨some ⟨br,0,none⟩,1, [9]⟩ rfl (hp.row (j:=0) rfl) (fun _ _=>rfl) int_one (by simp only [List.length_append,List.length_cons,List.length_nil];omega) (by simp only [maxLen,List.length_append,List.length_cons,List.length_nil];omega) ?_);clear hp;intro A9 c9 w hp;dsimp only [List.set] at hp)|(apply gen_len;exact rfl;exact rfl;assumption))|((with_reducible refine cl_id ?_);((refine cl_eq ((ct hp.chg)) rfl rfl ?_;rintro e w ⟨rfl,hcc⟩;replace hp:=hp.call0 hcc;refine ⟨_,rfl,?_⟩))))<;>(conv=>whnf)))
       all_goals first
        |(exfalso;omega)
        |exact lp_next (k+1,⟨A9,c9,r.l++ [9]⟩) (by show x.win.l.length - (k+1) < x.win.l.length - k;omega) (by (repeat' (first|exact trivial|(refine ⟨rfl,?_⟩)))) ⟨by show k+1≤_;omega,by show r.l++ [9]=jobL x i y (k+1);first|(rw [hnx];done)|(rw [hnx];simp),hp.pick [2,3,4] (by decide) rfl⟩
     ·have h1:oneQ x y k= []:=by first|(rw [hone,decide_eq_false hm0,decide_eq_false h8,decide_eq_true (p:=y.mined.toNat≠0) hm0,decide_eq_false h9];done)|(rw [hone,decide_eq_false hm0,decide_eq_false h8,decide_eq_true (p:=y.mined.toNat≠0) hm0,decide_eq_false h9];rfl)
      rw [h1] at hnx
      ((conv=>whnf);repeat' ((first|((with_reducible refine br_id ?_);first|(with_reducible refine br_t ?_)|(with_reducible refine br_f ?_)|((with_reducible refine br_dec (fun hx=>?_) (fun hx=>?_))<;>(try (exfalso;first|omega|contradiction)))|((with_reducible refine br_eq (fun hx=>?_) (fun hx=>?_))<;>(try (exfalso;first|omega|contradiction)))|((with_reducible refine br_ne (fun hx=>?_) (fun hx=>?_))<;>(try (exfalso;first|omega|contradiction))))|((with_reducible refine ar_id ?_);first|((refine ar_h ?_))|(refine ar_i64 (by omega) ?_))|((with_reducible refine cn_id ?_);(refine cn rfl ?_))|((with_reducible refine ld_id ?_);(apply ld_hs hp;(focus repeat' constructor);exact rfl))|((with_reducible refine ldn_id ?_);((refine ldn_rowx hp hB ‹_› ‹_› _ rfl ‹_› rfl ?_)))|((with_reducible refine al_id ?_);(refine al_cel hp ?_;clear hp;intro bb w hp))|((with_reducible refine st_id ?_);(apply sta_hs hp;(focus repeat' constructor);exact rfl;exact rfl;clear hp;intro w hp;(try dsimp only [List.set] at hp)))|((with_reducible refine gen_id ?_);first|((refine gen_ixs rfl rfl ‹_› rfl rfl (by omega) ?_))|(apply gen_len;exact rfl;exact rfl;assumption)))<;>(conv=>whnf)))
      all_goals first
       |(exfalso;omega)
       |exact lp_next (k+1,r) (by show x.win.l.length - (k+1) < x.win.l.length - k;omega) (by (repeat' (first|exact trivial|(refine ⟨rfl,?_⟩)))) ⟨by show k+1≤_;omega,by show r.l=jobL x i y (k+1);first|(rw [hnx];done)|(rw [hnx];simp),hp.pick [1,2,3] (by decide) rfl⟩
  ·obtain rfl:k=x.win.l.length:=by omega
   ((conv=>whnf);repeat' ((first|((with_reducible refine br_id ?_);((with_reducible refine br_dec (fun hx=>?_) (fun hx=>?_))<;>(try (exfalso;first|omega|contradiction))))|((with_reducible refine ld_id ?_);(apply ld_hs hp;(focus repeat' constructor);exact rfl))|((with_reducible refine gen_id ?_);(apply gen_len;exact rfl;exact rfl;assumption)))<;>(conv=>whnf)))
   exact ps_of ⟨r,hr,rfl,hp.made1 (j:=0) rfl⟩
end Go.Proofs.YteabebmlclgakaaGreat
