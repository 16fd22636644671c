/- MImprintBytes35: parts of the proof of ImprintBytes: StaSame, ImpReads, ImpRests, Num, EncR. No condition of their own. -/
import Derived.Test.YtpbapnlnheahnaaGreatDoorMImprintBytes16
import Derived.Test.YtpbapnlnheahnaaGreatDoorMImprintBytes34
import Derived.Test.YtpbapnlnheahnaaGreatDoorMImprintBytes32
import Derived.Test.YtpbapnlnheahnaaGreatDoorMImprintBytes24
import Derived.Test.YtpbapnlnheahnaaGreatDoorMImprintBytes6
import Derived.Test.YtpbapnlnheahnaaGreatDoorMImprintBytes31
import Derived.Test.YtpbapnlnheahnaaGreatDoorMImprintBytes21
import Derived.Test.YtpbapnlnheahnaaGreatDoorMImprintBytes13
import Derived.Test.YtpbapnlnheahnaaGreatDoorMImprintBytes9
set_option linter.unusedSimpArgs false
set_option linter.unusedVariables false
namespace Go.Proofs.YtpbapnlnheahnaaGreatDoor
open Go.RowKit
set_option maxRecDepth 100000
set_option maxHeartbeats 4000000
theorem lst_ne {α β:Type} [DecidableEq β] {f:α→β} {p q:List α} {i:Nat} {x y:α} (hx:p[i]? =some x) (hy:q[i]? =some y) (h:f x≠f y):decide (p.map f=q.map f)=false:=by
 rw [decide_eq_false_iff_not]
 intro hh
 have:=congrArg (·[i]?) hh
 simp [hx,hy] at this
 exact h this
theorem lst_next {α β:Type} {f:α→β} {p q:List α} {i:Nat} {x y:α} (hx:p[i]? =some x) (hy:q[i]? =some y) (h:(p.take i).map f=(q.take i).map f) (he:f x=f y):(p.take (i+1)).map f=(q.take (i+1)).map f:=by
 rw [List.take_add_one,List.take_add_one,hx,hy,List.map_append,List.map_append,h]
 simp [he]
theorem lst_len {α β:Type} [DecidableEq β] {f:α→β} {p q:List α} (h:p.length≠q.length):decide (p.map f=q.map f)=false:=by
 rw [decide_eq_false_iff_not]
 intro e
 have:=congrArg List.length e
 rw [List.length_map,List.length_map] at this
 exact h this
theorem i64_eq (a b:Int):(a==b)=decide (a=b):=by rw [Bool.eq_iff_iff];simp
theorem eq_cfg (x y:Cfg):EqIs Tryz.prog 23 x.v y.v (decide (x=y)):=eqis_of (fs:=Tryz.prog.fieldsOf 23) (by kernel_rfl) (by kernel_rfl) fun w=>by
 have h0:=eqf_cons (P:=Tryz.prog) (w:=w) (d:=9999) (xs:= #[i64 x.dep,i64 x.stp,i64 x.kep,i64 x.ses,i64 x.cap,i64 x.com]) (ys:= #[i64 y.dep,i64 y.stp,i64 y.kep,i64 y.ses,i64 y.cap,i64 y.com]) (f:=((Tryz.prog.fieldsOf 23)[0]?).getD default) (by decide+kernel) (part_word (n:=1) (by kernel_rfl) (v:=i64 x.dep) (by kernel_rfl)) (part_word (n:=1) (by kernel_rfl) (v:=i64 y.dep) (by kernel_rfl)) (run_equalIn_int w 9998 _ .i64 .i64 _ _ (by kernel_rfl)) (eqf_cons (f:=((Tryz.prog.fieldsOf 23)[1]?).getD default) (by decide+kernel) (part_word (n:=1) (by kernel_rfl) (v:=i64 x.stp) (by kernel_rfl)) (part_word (n:=1) (by kernel_rfl) (v:=i64 y.stp) (by kernel_rfl)) (run_equalIn_int w 9998 _ .i64 .i64 _ _ (by kernel_rfl)) (eqf_cons (f:=((Tryz.prog.fieldsOf 23)[2]?).getD default) (by decide+kernel) (part_word (n:=1) (by kernel_rfl) (v:=i64 x.kep) (by kernel_rfl)) (part_word (n:=1) (by kernel_rfl) (v:=i64 y.kep) (by kernel_rfl)) (run_equalIn_int w 9998 _ .i64 .i64 _ _ (by kernel_rfl)) (eqf_cons (f:=((Tryz.prog.fieldsOf 23)[3]?).getD default) (by decide+kernel) (part_word (n:=1) (by kernel_rfl) (v:=i64 x.ses) (by kernel_rfl)) (part_word (n:=1) (by kernel_rfl) (v:=i64 y.ses) (by kernel_rfl)) (run_equalIn_int w 9998 _ .i64 .i64 _ _ (by kernel_rfl)) (eqf_cons (f:=((Tryz.prog.fieldsOf 23)[4]?).getD default) (by decide+kernel) (part_word (n:=1) (by kernel_rfl) (v:=i64 x.cap) (by kernel_rfl)) (part_word (n:=1) (by kernel_rfl) (v:=i64 y.cap) (by kernel_rfl)) (run_equalIn_int w 9998 _ .i64 .i64 _ _ (by kernel_rfl)) (eqf_cons (f:=((Tryz.prog.fieldsOf 23)[5]?).getD default) (by decide+kernel) (part_word (n:=1) (by kernel_rfl) (v:=i64 x.com) (by kernel_rfl)) (part_word (n:=1) (by kernel_rfl) (v:=i64 y.com) (by kernel_rfl)) (run_equalIn_int w 9998 _ .i64 .i64 _ _ (by kernel_rfl)) eqf_nil)))))
 simp only [i64_eq] at h0
 have e:(decide (x.dep=y.dep) && (decide (x.stp=y.stp) && (decide (x.kep=y.kep) && (decide (x.ses=y.ses) && (decide (x.cap=y.cap) && (decide (x.com=y.com) && true))))))=decide (x=y):=by
  rw [Bool.eq_iff_iff]
  cases x;cases y
  simp
 rw [e] at h0
 exact h0
theorem sameW_any {B B':Nat} {w0:World} {s r:Sl Blk} (h:SlAt B w0 Blk.c 65 s) (h':SlAt B' w0 Blk.c 65 r) (ht:∀b∈s.l,SlAt B w0 Id.c 32 b.tx) (ht':∀b∈r.l,SlAt B' w0 Id.c 32 b.tx):Calls Tryz.prog 23 #[s.v,r.v] w0 fun e w'=>e= .returned (.bool (decide (s.l.map Blk.p=r.l.map Blk.p)))∧Chg N0 w0 w':=by
 have hp:=Hp.start (S:=N0) w0
 have hB:∀b,N0 b→B≤b:=fun _ hh=>hh.elim
 have hB':∀b,N0 b→B'≤b:=fun _ hh=>hh.elim
 have hmax:s.l.length≤9223372036854775807:=by have:=h.le;have:=h.max;simp only [maxLen] at this;omega
 have hmax':r.l.length≤9223372036854775807:=by have:=h'.le;have:=h'.max;simp only [maxLen] at this;omega
 have u1:=Tryz.underlying26
 refine calls_x (args:= [_,_]) tabOk Tryz.func23 Tryz.ntmps23 Tryz.results23 rfl (Nat.le_of_ble_eq_true rfl) ?_
 ((conv=>whnf);repeat' ((first|((with_reducible apply br_id);(with_reducible refine br_ne (fun hx=>?_) (fun hx=>?_))<;>(try (exfalso;first|omega|contradiction)))|((with_reducible apply gen_id);apply gen_len;exact rfl;exact rfl;assumption))<;>(conv=>whnf)))
 ·exact ps_val (v':= .bool false) rfl ⟨by rw [lst_len (by omega)],hp.chg⟩
 have hll:s.l.length=r.l.length:=by omega
 refine lp_inv (α:=Nat) (fun i=> [(0,s.v),(1,r.v),(5,i64 i)]) (fun i w=>i≤s.l.length∧(s.l.take i).map Blk.p=(r.l.take i).map Blk.p∧Hp N0 w0 w []) (fun i=>s.l.length - i) 0 (by (repeat' (first|exact trivial|(refine ⟨rfl,?_⟩)))) ⟨by omega,rfl,hp⟩ ?_
 clear hp
 rintro i e0 w ⟨hi,hall,hp⟩
 dsimp only at hi hall hp ⊢
 rcases Nat.lt_or_ge i s.l.length with hlt|hge
 ·obtain ⟨b,o,x,hA,hb,hrow,hxx⟩:=h.has hlt
  obtain ⟨b',o',y,hA',hb',hrow',hyy⟩:=h'.has (i:=i) (by omega)
  have hir:(i:Int) < r.l.length:=by omega
  obtain ⟨q,hq⟩:∃q,sameBlk x y=q:=⟨_,rfl⟩
  have hs:∀{w:World},Chg N0 w0 w→Calls Tryz.prog 82 #[x.v,y.v] w fun e w'=>e= .returned (.bool q)∧Chg N0 w w':=fun {w} hc=>by
   rw [←hq]
   exact sameBlk_any (((ht x (List.mem_of_getElem? hxx)).keep hc hB).more (Nat.le_max_left B B')) (((ht' y (List.mem_of_getElem? hyy)).keep hc hB').more (Nat.le_max_right B B'))
  have hxy:q=true↔x.p=y.p:=by
   rw [←hq]
   unfold sameBlk Blk.p
   simp only [Bool.and_eq_true,decide_eq_true_eq,BlkP.mk.injEq]
  cases q with
  |false=>
   ((conv=>whnf);repeat' ((first|((with_reducible apply br_id);first|with_reducible refine br_f ?_|with_reducible refine br_not ?_|((with_reducible refine br_dec (fun hx=>?_) (fun hx=>?_))<;>(try (exfalso;first|omega|contradiction))))|((with_reducible apply ldn_id);first|(refine ldn_rowx hp hB hb hrow _ rfl hxx rfl ?_)|(refine ldn_rowx hp hB' hb' hrow' _ rfl hyy rfl ?_))|((with_reducible apply gen_id);apply gen_len;exact rfl;exact rfl;assumption)|((with_reducible apply dr_id);refine dr_auto tabOk (by kernel_rfl) (by decide+kernel) ?_;(try replace hp:=hp.drew))|((with_reducible apply cl_id);(refine cl_eq ((hs hp.chg)) rfl rfl ?_;rintro e w ⟨rfl,hcc⟩;replace hp:=hp.call0 hcc;refine ⟨_,rfl,?_⟩))|((with_reducible apply rd_id);first|(refine rd_ixs rfl rfl hA rfl rfl (by omega) ?_)|(refine rd_ixs rfl rfl hA' rfl rfl (by omega) ?_)))<;>(conv=>whnf)))
   exact ps_val (v':= .bool false) rfl ⟨by rw [lst_ne hxx hyy fun e=>by have:=hxy.2 e;cases this],hp.chg⟩
  |true=>
   ((conv=>whnf);repeat' ((first|((with_reducible apply br_id);first|with_reducible refine br_t ?_|with_reducible refine br_not ?_|((with_reducible refine br_dec (fun hx=>?_) (fun hx=>?_))<;>(try (exfalso;first|omega|contradiction))))|((with_reducible apply ar_id);refine ar_i64 (by omega) ?_)|((with_reducible apply ldn_id);first|(refine ldn_rowx hp hB hb hrow _ rfl hxx rfl ?_)|(refine ldn_rowx hp hB' hb' hrow' _ rfl hyy rfl ?_))|((with_reducible apply gen_id);apply gen_len;exact rfl;exact rfl;assumption)|((with_reducible apply dr_id);refine dr_auto tabOk (by kernel_rfl) (by decide+kernel) ?_;(try replace hp:=hp.drew))|((with_reducible apply cl_id);(refine cl_eq ((hs hp.chg)) rfl rfl ?_;rintro e w ⟨rfl,hcc⟩;replace hp:=hp.call0 hcc;refine ⟨_,rfl,?_⟩))|((with_reducible apply rd_id);first|(refine rd_ixs rfl rfl hA rfl rfl (by omega) ?_)|(refine rd_ixs rfl rfl hA' rfl rfl (by omega) ?_)))<;>(conv=>whnf)))
   exact lp_next (i+1) (by show s.l.length - (i+1) < s.l.length - i;omega) (by (repeat' (first|exact trivial|(refine ⟨rfl,?_⟩)))) ⟨by show i+1≤_;omega,lst_next hxx hyy hall (hxy.1 rfl),hp⟩
 ·rw [List.take_of_length_le hge,List.take_of_length_le (by omega)] at hall
  ((conv=>whnf);repeat' ((first|((with_reducible apply br_id);(with_reducible refine br_dec (fun hx=>?_) (fun hx=>?_))<;>(try (exfalso;first|omega|contradiction)))|((with_reducible apply gen_id);apply gen_len;exact rfl;exact rfl;assumption))<;>(conv=>whnf)))
  exact ps_val (v':= .bool true) rfl ⟨by rw [decide_eq_true hall],hp.chg⟩
theorem sameJ_any {B B':Nat} {w0:World} {x y:Job} (h:PayAt B w0 x.pay) (h':PayAt B' w0 y.pay):Calls Tryz.prog 83 #[x.v,y.v] w0 fun e w'=>e= .returned (.bool (decide (x.p=y.p)))∧Chg N0 w0 w':=by
 have hp:=Hp.start (S:=N0) w0
 have hB:∀b,N0 b→B≤b:=fun _ hh=>hh.elim
 have hB':∀b,N0 b→B'≤b:=fun _ hh=>hh.elim
 obtain ⟨q,hq⟩:∃q,sameP x.pay y.pay=q:=⟨_,rfl⟩
 have hn1:(if BinOp.eql=BinOp.eql then true else !true)=true:=rfl
 have hn0:(if BinOp.eql=BinOp.eql then false else !false)=false:=rfl
 have hs:∀{w:World},Chg N0 w0 w→Calls Tryz.prog 123 #[x.pay.pv,y.pay.pv] w fun e w'=>e= .returned (.bool q)∧Chg N0 w w':=fun {w} hc=>by
  rw [←hq]
  have h1:=h.keep hc hB
  have h2:=h'.keep hc hB'
  exact rsamep_any (B:=max B B') ⟨h1.row.more (Nat.le_max_left ..),fun t ht=>(h1.tx t ht).more (Nat.le_max_left ..)⟩ ⟨h2.row.more (Nat.le_max_right ..),fun t ht=>(h2.tx t ht).more (Nat.le_max_right ..)⟩
 have hqp:q=true↔x.pay.l.map tk=y.pay.l.map tk:=by rw [←hq];unfold sameP;simp
 by_cases h1:x.key=y.key
 ·have hk:EqIs Tryz.prog 54 x.key.v y.key.v true:=by have:=eq_key x.key y.key;rwa [decide_eq_true h1] at this
  by_cases h2:x.breach=y.breach
  ·have hb:EqIs Tryz.prog 48 x.breach.v y.breach.v true:=by have:=eq_id x.breach y.breach;rwa [decide_eq_true h2] at this
   by_cases h3:x.height=y.height∧x.mined=y.mined∧x.live=y.live
   ·obtain ⟨h3,h4,h5⟩:=h3
    have e3:(x.height.toNat:Int)=y.height.toNat:=by rw [h3]
    have e4:(x.mined.toNat:Int)=y.mined.toNat:=by rw [h4]
    have hP:decide (x.p=y.p)=q:=by
     rw [Bool.eq_iff_iff,decide_eq_true_eq,hqp]
     unfold Job.p
     simp only [JobP.mk.injEq,h1,h2,h3,h4,h5,true_and]
    rw [hP]
    refine calls_x (args:= [_,_]) tabOk Tryz.func83 Tryz.ntmps83 Tryz.results83 rfl (Nat.le_of_ble_eq_true rfl) ?_
    ((conv=>whnf);repeat' ((first|((with_reducible apply br_id);first|(with_reducible refine br_1 hn1 ?_)|with_reducible refine br_t ?_|((with_reducible refine br_eq (fun hx=>?_) (fun hx=>?_))<;>(try (exfalso;first|omega|contradiction))))|((with_reducible apply ld_id);apply ld_hs hp;(focus repeat' constructor);exact rfl)|((with_reducible apply ldn_id);apply ldn_hs hp;(focus repeat' constructor);exact rfl;exact rfl)|((with_reducible apply al_id);refine al_cel hp ?_;clear hp;intro bb w hp)|((with_reducible apply gen_id);first|(refine gen_eqa rfl rfl rfl hk (by kernel_rfl) (.inl rfl) ?_)|(refine gen_eqa rfl rfl rfl hb (by kernel_rfl) (.inl rfl) ?_))|((with_reducible apply cl_id);(refine cl_eq ((hs hp.chg)) rfl rfl ?_;rintro e w ⟨rfl,hcc⟩;replace hp:=hp.call0 hcc;refine ⟨_,rfl,?_⟩)))<;>(conv=>whnf)))
    all_goals first
     |exact absurd e3 hx
     |exact absurd e4 hx
     |exact absurd h5 hx
     |exact ps_val (v':= .bool q) rfl ⟨rfl,hp.chg⟩
   ·have hP:decide (x.p=y.p)=false:=by
     rw [decide_eq_false_iff_not]
     intro e
     exact h3 ⟨congrArg JobP.height e,congrArg JobP.mined e,congrArg JobP.live e⟩
    rw [hP]
    have e3:¬((x.height.toNat:Int)=y.height.toNat∧(x.mined.toNat:Int)=y.mined.toNat∧x.live=y.live):=fun ⟨a,b,c⟩=>h3 ⟨UInt32.toNat_inj.1 (Int.ofNat.inj a),UInt32.toNat_inj.1 (Int.ofNat.inj b),c⟩
    refine calls_x (args:= [_,_]) tabOk Tryz.func83 Tryz.ntmps83 Tryz.results83 rfl (Nat.le_of_ble_eq_true rfl) ?_
    ((conv=>whnf);repeat' ((first|((with_reducible apply br_id);first|(with_reducible refine br_1 hn1 ?_)|with_reducible refine br_t ?_|with_reducible refine br_f ?_|((with_reducible refine br_eq (fun hx=>?_) (fun hx=>?_))<;>(try (exfalso;first|omega|contradiction))))|((with_reducible apply ld_id);apply ld_hs hp;(focus repeat' constructor);exact rfl)|((with_reducible apply ldn_id);apply ldn_hs hp;(focus repeat' constructor);exact rfl;exact rfl)|((with_reducible apply al_id);refine al_cel hp ?_;clear hp;intro bb w hp)|((with_reducible apply gen_id);first|(refine gen_eqa rfl rfl rfl hk (by kernel_rfl) (.inl rfl) ?_)|(refine gen_eqa rfl rfl rfl hb (by kernel_rfl) (.inl rfl) ?_)))<;>(conv=>whnf)))
    all_goals first
     |exact ps_val (v':= .bool false) rfl ⟨rfl,hp.chg⟩
     |(exfalso;omega)
  ·have hP:decide (x.p=y.p)=false:=by rw [decide_eq_false_iff_not];exact fun e=>h2 (congrArg JobP.breach e)
   rw [hP]
   have hb:EqIs Tryz.prog 48 x.breach.v y.breach.v false:=by have:=eq_id x.breach y.breach;rwa [decide_eq_false h2] at this
   refine calls_x (args:= [_,_]) tabOk Tryz.func83 Tryz.ntmps83 Tryz.results83 rfl (Nat.le_of_ble_eq_true rfl) ?_
   ((conv=>whnf);repeat' ((first|((with_reducible apply br_id);first|(with_reducible refine br_1 hn1 ?_)|(with_reducible refine br_0 hn0 ?_)|with_reducible refine br_t ?_|with_reducible refine br_f ?_)|((with_reducible apply ldn_id);apply ldn_hs hp;(focus repeat' constructor);exact rfl;exact rfl)|((with_reducible apply al_id);refine al_cel hp ?_;clear hp;intro bb w hp)|((with_reducible apply gen_id);first|(refine gen_eqa rfl rfl rfl hk (by kernel_rfl) (.inl rfl) ?_)|(refine gen_eqa rfl rfl rfl hb (by kernel_rfl) (.inl rfl) ?_)))<;>(conv=>whnf)))
   exact ps_val (v':= .bool false) rfl ⟨rfl,hp.chg⟩
 ·have hP:decide (x.p=y.p)=false:=by rw [decide_eq_false_iff_not];exact fun e=>h1 (congrArg JobP.key e)
  rw [hP]
  have hk:EqIs Tryz.prog 54 x.key.v y.key.v false:=by have:=eq_key x.key y.key;rwa [decide_eq_false h1] at this
  refine calls_x (args:= [_,_]) tabOk Tryz.func83 Tryz.ntmps83 Tryz.results83 rfl (Nat.le_of_ble_eq_true rfl) ?_
  ((conv=>whnf);repeat' ((first|((with_reducible apply br_id);first|(with_reducible refine br_0 hn0 ?_)|with_reducible refine br_f ?_)|((with_reducible apply ldn_id);apply ldn_hs hp;(focus repeat' constructor);exact rfl;exact rfl)|((with_reducible apply al_id);refine al_cel hp ?_;clear hp;intro bb w hp)|((with_reducible apply gen_id);(refine gen_eqa rfl rfl rfl hk (by kernel_rfl) (.inl rfl) ?_)))<;>(conv=>whnf)))
  exact ps_val (v':= .bool false) rfl ⟨rfl,hp.chg⟩
theorem sameA_any {B B':Nat} {w0:World} {s r:Sl Job} (h:SlAt B w0 Job.c 38 s) (h':SlAt B' w0 Job.c 38 r) (ht:∀j∈s.l,PayAt B w0 j.pay) (ht':∀j∈r.l,PayAt B' w0 j.pay):Calls Tryz.prog 26 #[s.v,r.v] w0 fun e w'=>e= .returned (.bool (decide (s.l.map Job.p=r.l.map Job.p)))∧Chg N0 w0 w':=by
 have hp:=Hp.start (S:=N0) w0
 have hB:∀b,N0 b→B≤b:=fun _ hh=>hh.elim
 have hB':∀b,N0 b→B'≤b:=fun _ hh=>hh.elim
 have hmax:s.l.length≤9223372036854775807:=by have:=h.le;have:=h.max;simp only [maxLen] at this;omega
 have hmax':r.l.length≤9223372036854775807:=by have:=h'.le;have:=h'.max;simp only [maxLen] at this;omega
 have u1:=Tryz.underlying29
 refine calls_x (args:= [_,_]) tabOk Tryz.func26 Tryz.ntmps26 Tryz.results26 rfl (Nat.le_of_ble_eq_true rfl) ?_
 ((conv=>whnf);repeat' ((first|((with_reducible apply br_id);(with_reducible refine br_ne (fun hx=>?_) (fun hx=>?_))<;>(try (exfalso;first|omega|contradiction)))|((with_reducible apply gen_id);apply gen_len;exact rfl;exact rfl;assumption))<;>(conv=>whnf)))
 ·exact ps_val (v':= .bool false) rfl ⟨by rw [lst_len (by omega)],hp.chg⟩
 have hll:s.l.length=r.l.length:=by omega
 refine lp_inv (α:=Nat) (fun i=> [(0,s.v),(1,r.v),(5,i64 i)]) (fun i w=>i≤s.l.length∧(s.l.take i).map Job.p=(r.l.take i).map Job.p∧Hp N0 w0 w []) (fun i=>s.l.length - i) 0 (by (repeat' (first|exact trivial|(refine ⟨rfl,?_⟩)))) ⟨by omega,rfl,hp⟩ ?_
 clear hp
 rintro i e0 w ⟨hi,hall,hp⟩
 dsimp only at hi hall hp ⊢
 rcases Nat.lt_or_ge i s.l.length with hlt|hge
 ·obtain ⟨b,o,x,hA,hb,hrow,hxx⟩:=h.has hlt
  obtain ⟨b',o',y,hA',hb',hrow',hyy⟩:=h'.has (i:=i) (by omega)
  have hir:(i:Int) < r.l.length:=by omega
  obtain ⟨q,hq⟩:∃q,decide (x.p=y.p)=q:=⟨_,rfl⟩
  have hs:∀{w:World},Chg N0 w0 w→Calls Tryz.prog 83 #[x.v,y.v] w fun e w'=>e= .returned (.bool q)∧Chg N0 w w':=fun {w} hc=>by
   rw [←hq]
   exact sameJ_any ((ht x (List.mem_of_getElem? hxx)).keep hc hB) ((ht' y (List.mem_of_getElem? hyy)).keep hc hB')
  have hxy:q=true↔x.p=y.p:=by rw [←hq,decide_eq_true_eq]
  cases q with
  |false=>
   ((conv=>whnf);repeat' ((first|((with_reducible apply br_id);first|with_reducible refine br_f ?_|with_reducible refine br_not ?_|((with_reducible refine br_dec (fun hx=>?_) (fun hx=>?_))<;>(try (exfalso;first|omega|contradiction))))|((with_reducible apply ldn_id);first|(refine ldn_rowx hp hB hb hrow _ rfl hxx rfl ?_)|(refine ldn_rowx hp hB' hb' hrow' _ rfl hyy rfl ?_))|((with_reducible apply gen_id);apply gen_len;exact rfl;exact rfl;assumption)|((with_reducible apply dr_id);refine dr_auto tabOk (by kernel_rfl) (by decide+kernel) ?_;(try replace hp:=hp.drew))|((with_reducible apply cl_id);(refine cl_eq ((hs hp.chg)) rfl rfl ?_;rintro e w ⟨rfl,hcc⟩;replace hp:=hp.call0 hcc;refine ⟨_,rfl,?_⟩))|((with_reducible apply rd_id);first|(refine rd_ixs rfl rfl hA rfl rfl (by omega) ?_)|(refine rd_ixs rfl rfl hA' rfl rfl (by omega) ?_)))<;>(conv=>whnf)))
   exact ps_val (v':= .bool false) rfl ⟨by rw [lst_ne hxx hyy fun e=>by have:=hxy.2 e;cases this],hp.chg⟩
  |true=>
   ((conv=>whnf);repeat' ((first|((with_reducible apply br_id);first|with_reducible refine br_t ?_|with_reducible refine br_not ?_|((with_reducible refine br_dec (fun hx=>?_) (fun hx=>?_))<;>(try (exfalso;first|omega|contradiction))))|((with_reducible apply ar_id);refine ar_i64 (by omega) ?_)|((with_reducible apply ldn_id);first|(refine ldn_rowx hp hB hb hrow _ rfl hxx rfl ?_)|(refine ldn_rowx hp hB' hb' hrow' _ rfl hyy rfl ?_))|((with_reducible apply gen_id);apply gen_len;exact rfl;exact rfl;assumption)|((with_reducible apply dr_id);refine dr_auto tabOk (by kernel_rfl) (by decide+kernel) ?_;(try replace hp:=hp.drew))|((with_reducible apply cl_id);(refine cl_eq ((hs hp.chg)) rfl rfl ?_;rintro e w ⟨rfl,hcc⟩;replace hp:=hp.call0 hcc;refine ⟨_,rfl,?_⟩))|((with_reducible apply rd_id);first|(refine rd_ixs rfl rfl hA rfl rfl (by omega) ?_)|(refine rd_ixs rfl rfl hA' rfl rfl (by omega) ?_)))<;>(conv=>whnf)))
   exact lp_next (i+1) (by show s.l.length - (i+1) < s.l.length - i;omega) (by (repeat' (first|exact trivial|(refine ⟨rfl,?_⟩)))) ⟨by show i+1≤_;omega,lst_next hxx hyy hall (hxy.1 rfl),hp⟩
 ·rw [List.take_of_length_le hge,List.take_of_length_le (by omega)] at hall
  ((conv=>whnf);repeat' ((first|((with_reducible apply br_id);(with_reducible refine br_dec (fun hx=>?_) (fun hx=>?_))<;>(try (exfalso;first|omega|contradiction)))|((with_reducible apply gen_id);apply gen_len;exact rfl;exact rfl;assumption))<;>(conv=>whnf)))
  exact ps_val (v':= .bool true) rfl ⟨by rw [decide_eq_true hall],hp.chg⟩
theorem sameS_any {B B':Nat} {w0:World} {s r:Sl Sess} (h:SlAt B w0 Sess.c 4 s) (h':SlAt B' w0 Sess.c 4 r):Calls Tryz.prog 24 #[s.v,r.v] w0 fun e w'=>e= .returned (.bool (decide (s.l=r.l)))∧Chg N0 w0 w':=by
 have hp:=Hp.start (S:=N0) w0
 have hB:∀b,N0 b→B≤b:=fun _ hh=>hh.elim
 have hB':∀b,N0 b→B'≤b:=fun _ hh=>hh.elim
 have hmax:s.l.length≤9223372036854775807:=by have:=h.le;have:=h.max;simp only [maxLen] at this;omega
 have hmax':r.l.length≤9223372036854775807:=by have:=h'.le;have:=h'.max;simp only [maxLen] at this;omega
 have hn1:(if BinOp.neq=BinOp.eql then false else !false)=true:=rfl
 have hn0:(if BinOp.neq=BinOp.eql then true else !true)=false:=rfl
 have hid:∀l:List Sess,l.map (fun x=>x)=l:=fun l=>List.map_id' l
 have u1:=Tryz.underlying27
 refine calls_x (args:= [_,_]) tabOk Tryz.func24 Tryz.ntmps24 Tryz.results24 rfl (Nat.le_of_ble_eq_true rfl) ?_
 ((conv=>whnf);repeat' ((first|((with_reducible apply br_id);(with_reducible refine br_ne (fun hx=>?_) (fun hx=>?_))<;>(try (exfalso;first|omega|contradiction)))|((with_reducible apply gen_id);apply gen_len;exact rfl;exact rfl;assumption))<;>(conv=>whnf)))
 ·have:=lst_len (f:=fun x:Sess=>x) (p:=s.l) (q:=r.l) (by omega)
  rw [hid,hid] at this
  exact ps_val (v':= .bool false) rfl ⟨by rw [this],hp.chg⟩
 have hll:s.l.length=r.l.length:=by omega
 refine lp_inv (α:=Nat) (fun i=> [(0,s.v),(1,r.v),(5,i64 i)]) (fun i w=>i≤s.l.length∧s.l.take i=r.l.take i∧Hp N0 w0 w []) (fun i=>s.l.length - i) 0 (by (repeat' (first|exact trivial|(refine ⟨rfl,?_⟩)))) ⟨by omega,rfl,hp⟩ ?_
 clear hp
 rintro i e0 w ⟨hi,hall,hp⟩
 dsimp only at hi hall hp ⊢
 rcases Nat.lt_or_ge i s.l.length with hlt|hge
 ·obtain ⟨b,o,x,hA,hb,hrow,hxx⟩:=h.has hlt
  obtain ⟨b',o',y,hA',hb',hrow',hyy⟩:=h'.has (i:=i) (by omega)
  have hir:(i:Int) < r.l.length:=by omega
  by_cases he:x=y
  ·have hq:EqIs Tryz.prog 103 x.v y.v true:=by have:=eq_sess x y;rwa [decide_eq_true he] at this
   ((conv=>whnf);repeat' ((first|((with_reducible apply br_id);first|(with_reducible refine br_0 hn0 ?_)|((with_reducible refine br_dec (fun hx=>?_) (fun hx=>?_))<;>(try (exfalso;first|omega|contradiction))))|((with_reducible apply ar_id);refine ar_i64 (by omega) ?_)|((with_reducible apply ldn_id);first|(refine ldn_rowx hp hB hb hrow _ rfl hxx rfl ?_)|(refine ldn_rowx hp hB' hb' hrow' _ rfl hyy rfl ?_))|((with_reducible apply gen_id);apply gen_len;exact rfl;exact rfl;assumption)|((with_reducible apply dr_id);refine dr_auto tabOk (by kernel_rfl) (by decide+kernel) ?_;(try replace hp:=hp.drew))|((with_reducible apply rd_id);first|(refine rd_ixs rfl rfl hA rfl rfl (by omega) ?_)|(refine rd_ixs rfl rfl hA' rfl rfl (by omega) ?_)|(refine rd_eqa rfl rfl rfl hq (by kernel_rfl) (.inr rfl) ?_)))<;>(conv=>whnf)))
   have hnx:=lst_next (f:=fun x:Sess=>x) hxx hyy (by rw [hid,hid];exact hall) he
   rw [hid,hid] at hnx
   exact lp_next (i+1) (by show s.l.length - (i+1) < s.l.length - i;omega) (by (repeat' (first|exact trivial|(refine ⟨rfl,?_⟩)))) ⟨by show i+1≤_;omega,hnx,hp⟩
  ·have hq:EqIs Tryz.prog 103 x.v y.v false:=by have:=eq_sess x y;rwa [decide_eq_false he] at this
   ((conv=>whnf);repeat' ((first|((with_reducible apply br_id);first|(with_reducible refine br_1 hn1 ?_)|((with_reducible refine br_dec (fun hx=>?_) (fun hx=>?_))<;>(try (exfalso;first|omega|contradiction))))|((with_reducible apply ldn_id);first|(refine ldn_rowx hp hB hb hrow _ rfl hxx rfl ?_)|(refine ldn_rowx hp hB' hb' hrow' _ rfl hyy rfl ?_))|((with_reducible apply gen_id);apply gen_len;exact rfl;exact rfl;assumption)|((with_reducible apply dr_id);refine dr_auto tabOk (by kernel_rfl) (by decide+kernel) ?_;(try replace hp:=hp.drew))|((with_reducible apply rd_id);first|(refine rd_ixs rfl rfl hA rfl rfl (by omega) ?_)|(refine rd_ixs rfl rfl hA' rfl rfl (by omega) ?_)|(refine rd_eqa rfl rfl rfl hq (by kernel_rfl) (.inr rfl) ?_)))<;>(conv=>whnf)))
   have:=lst_ne (f:=fun x:Sess=>x) hxx hyy he
   rw [hid,hid] at this
   exact ps_val (v':= .bool false) rfl ⟨by rw [this],hp.chg⟩
 ·rw [List.take_of_length_le hge,List.take_of_length_le (by omega)] at hall
  ((conv=>whnf);repeat' ((first|((with_reducible apply br_id);(with_reducible refine br_dec (fun hx=>?_) (fun hx=>?_))<;>(try (exfalso;first|omega|contradiction)))|((with_reducible apply gen_id);apply gen_len;exact rfl;exact rfl;assumption))<;>(conv=>whnf)))
  exact ps_val (v':= .bool true) rfl ⟨by rw [decide_eq_true hall],hp.chg⟩
theorem same31_any {B B':Nat} {w0:World} {x y:Sta} (h:StaAt B w0 x) (h':StaAt B' w0 y):Calls Tryz.prog 11 #[x.v,y.v] w0 fun e w'=>e= .returned (.bool (decide (x.p=y.p)))∧Chg N0 w0 w':=by
 have hp:=Hp.start (S:=N0) w0
 have hB:∀b,N0 b→B≤b:=fun _ hh=>hh.elim
 have hB':∀b,N0 b→B'≤b:=fun _ hh=>hh.elim
 have hn1:(if BinOp.eql=BinOp.eql then true else !true)=true:=rfl
 have hn0:(if BinOp.eql=BinOp.eql then false else !false)=false:=rfl
 obtain ⟨qW,hqW⟩:∃q,decide (x.win.l.map Blk.p=y.win.l.map Blk.p)=q:=⟨_,rfl⟩
 obtain ⟨qS,hqS⟩:∃q,decide (x.ses.l=y.ses.l)=q:=⟨_,rfl⟩
 obtain ⟨qB,hqB⟩:∃q,decide (x.blobs.l.map Blob.p=y.blobs.l.map Blob.p)=q:=⟨_,rfl⟩
 obtain ⟨qJ,hqJ⟩:∃q,decide (x.jobs.l.map Job.p=y.jobs.l.map Job.p)=q:=⟨_,rfl⟩
 have cW:∀{w:World},Chg N0 w0 w→Calls Tryz.prog 23 #[x.win.v,y.win.v] w fun e w'=>e= .returned (.bool qW)∧Chg N0 w w':=fun hc=>by
  rw [←hqW];exact sameW_any (h.win.keep hc hB) (h'.win.keep hc hB') (fun b hb=>(h.tx b hb).keep hc hB) (fun b hb=>(h'.tx b hb).keep hc hB')
 have cS:∀{w:World},Chg N0 w0 w→Calls Tryz.prog 24 #[x.ses.v,y.ses.v] w fun e w'=>e= .returned (.bool qS)∧Chg N0 w w':=fun hc=>by
  rw [←hqS];exact sameS_any (h.ses.keep hc hB) (h'.ses.keep hc hB')
 have cB:∀{w:World},Chg N0 w0 w→Calls Tryz.prog 25 #[x.blobs.v,y.blobs.v] w fun e w'=>e= .returned (.bool qB)∧Chg N0 w w':=fun hc=>by
  rw [←hqB];exact rsame25_any (B:=max B B') ((h.blobs.keep hc hB).more (Nat.le_max_left ..)) ((h'.blobs.keep hc hB').more (Nat.le_max_right ..))
 have cJ:∀{w:World},Chg N0 w0 w→Calls Tryz.prog 26 #[x.jobs.v,y.jobs.v] w fun e w'=>e= .returned (.bool qJ)∧Chg N0 w w':=fun hc=>by
  rw [←hqJ];exact sameA_any (h.jobs.keep hc hB) (h'.jobs.keep hc hB') (fun j hj=>(h.pay j hj).keep hc hB) (fun j hj=>(h'.pay j hj).keep hc hB')
 by_cases h1:x.cfg=y.cfg
 ·have hk:EqIs Tryz.prog 23 x.cfg.v y.cfg.v true:=by have:=eq_cfg x.cfg y.cfg;rwa [decide_eq_true h1] at this
  by_cases h2:x.ht=y.ht∧x.halt=y.halt∧x.next=y.next
  ·obtain ⟨h2,h3,h4⟩:=h2
   have e2:(x.ht.toNat:Int)=y.ht.toNat:=by rw [h2]
   have e4:(x.next.toNat:Int)=y.next.toNat:=by rw [h4]
   have hP:decide (x.p=y.p)=(qW && (qS && (qB && qJ))):=by
    rw [Bool.eq_iff_iff,decide_eq_true_eq,←hqW,←hqS,←hqB,←hqJ]
    unfold Sta.p
    simp only [StaP.mk.injEq,h1,h2,h3,h4,true_and,Bool.and_eq_true,decide_eq_true_eq]
   rw [hP]
   refine calls_x (args:= [_,_]) tabOk Tryz.func11 Tryz.ntmps11 Tryz.results11 rfl (Nat.le_of_ble_eq_true rfl) ?_
   ((conv=>whnf);repeat' ((first|((with_reducible apply br_id);first|(with_reducible refine br_1 hn1 ?_)|with_reducible refine br_t ?_|with_reducible refine br_f ?_|((with_reducible refine br_eq (fun hx=>?_) (fun hx=>?_))<;>(try (exfalso;first|omega|contradiction)))|((with_reducible refine br_s (fun hx=>?_) (fun hx=>?_))<;>(try (exfalso;first|omega|contradiction))))|((with_reducible apply ld_id);apply ld_hs hp;(focus repeat' constructor);exact rfl)|((with_reducible apply ldn_id);apply ldn_hs hp;(focus repeat' constructor);exact rfl;exact rfl)|((with_reducible apply al_id);refine al_cel hp ?_;clear hp;intro bb w hp)|((with_reducible apply gen_id);(refine gen_eqa rfl rfl rfl hk (by kernel_rfl) (.inl rfl) ?_))|((with_reducible apply cl_id);first|((refine cl_eq ((cW hp.chg)) rfl rfl ?_;rintro e w ⟨rfl,hcc⟩;replace hp:=hp.call0 hcc;refine ⟨_,rfl,?_⟩))|((refine cl_eq ((cS hp.chg)) rfl rfl ?_;rintro e w ⟨rfl,hcc⟩;replace hp:=hp.call0 hcc;refine ⟨_,rfl,?_⟩))|((refine cl_eq ((cB hp.chg)) rfl rfl ?_;rintro e w ⟨rfl,hcc⟩;replace hp:=hp.call0 hcc;refine ⟨_,rfl,?_⟩))|((refine cl_eq ((cJ hp.chg)) rfl rfl ?_;rintro e w ⟨rfl,hcc⟩;replace hp:=hp.call0 hcc;refine ⟨_,rfl,?_⟩))))<;>(conv=>whnf)))
   all_goals (try subst qW)
   all_goals first
    |exact ps_val (v':= .bool false) rfl ⟨by simp_all,hp.chg⟩
    |exact ps_val (v':= .bool qJ) rfl ⟨by simp_all,hp.chg⟩
  ·have hP:decide (x.p=y.p)=false:=by
    rw [decide_eq_false_iff_not]
    intro e
    exact h2 ⟨congrArg StaP.ht e,congrArg StaP.halt e,congrArg StaP.next e⟩
   rw [hP]
   have e3:¬((x.ht.toNat:Int)=y.ht.toNat∧x.halt=y.halt∧(x.next.toNat:Int)=y.next.toNat):=fun ⟨a,b,c⟩=>h2 ⟨UInt32.toNat_inj.1 (Int.ofNat.inj a),b,UInt32.toNat_inj.1 (Int.ofNat.inj c)⟩
   refine calls_x (args:= [_,_]) tabOk Tryz.func11 Tryz.ntmps11 Tryz.results11 rfl (Nat.le_of_ble_eq_true rfl) ?_
   ((conv=>whnf);repeat' ((first|((with_reducible apply br_id);first|(with_reducible refine br_1 hn1 ?_)|with_reducible refine br_t ?_|with_reducible refine br_f ?_|((with_reducible refine br_eq (fun hx=>?_) (fun hx=>?_))<;>(try (exfalso;first|omega|contradiction))))|((with_reducible apply ld_id);apply ld_hs hp;(focus repeat' constructor);exact rfl)|((with_reducible apply ldn_id);apply ldn_hs hp;(focus repeat' constructor);exact rfl;exact rfl)|((with_reducible apply al_id);refine al_cel hp ?_;clear hp;intro bb w hp)|((with_reducible apply gen_id);(refine gen_eqa rfl rfl rfl hk (by kernel_rfl) (.inl rfl) ?_)))<;>(conv=>whnf)))
   all_goals first
    |exact ps_val (v':= .bool false) rfl ⟨rfl,hp.chg⟩
    |(exfalso;omega)
 ·have hP:decide (x.p=y.p)=false:=by rw [decide_eq_false_iff_not];exact fun e=>h1 (congrArg StaP.cfg e)
  rw [hP]
  have hk:EqIs Tryz.prog 23 x.cfg.v y.cfg.v false:=by have:=eq_cfg x.cfg y.cfg;rwa [decide_eq_false h1] at this
  refine calls_x (args:= [_,_]) tabOk Tryz.func11 Tryz.ntmps11 Tryz.results11 rfl (Nat.le_of_ble_eq_true rfl) ?_
  ((conv=>whnf);repeat' ((first|((with_reducible apply br_id);first|(with_reducible refine br_0 hn0 ?_)|with_reducible refine br_f ?_)|((with_reducible apply ldn_id);apply ldn_hs hp;(focus repeat' constructor);exact rfl;exact rfl)|((with_reducible apply al_id);refine al_cel hp ?_;clear hp;intro bb w hp)|((with_reducible apply gen_id);(refine gen_eqa rfl rfl rfl hk (by kernel_rfl) (.inl rfl) ?_)))<;>(conv=>whnf)))
  exact ps_val (v':= .bool false) rfl ⟨rfl,hp.chg⟩
open Go.RowKit Go.Stop
set_option maxHeartbeats 500000
set_option maxHeartbeats 4000000
theorem fewP_tk {p q:Payload} (h:p.l.map tk=q.l.map tk):fewP p=fewP q:=by
 have e:∀p:Payload,fewP p=((p.l.map tk).all (fun t=>decide (t.2.length≤200)) && decide ((p.l.map tk).length≤20)):=fun p=>by
  unfold fewP
  rw [List.all_map,List.length_map]
  rfl
 rw [e,e,h]
theorem few_rest {x r:Sta} (h:FewI x) (hr:r.p=restP x.p):FewI r:=by
 have h1:r.ses.l=x.ses.l:=congrArg StaP.ses hr
 have h2:r.blobs.l.map Blob.p=x.blobs.l.map Blob.p:=congrArg StaP.blobs hr
 have h3:r.win.l.map Blk.p=x.win.l.map Blk.p:=congrArg StaP.win hr
 have h4:r.jobs.l.map Job.p=(x.jobs.l.map Job.p).map restJ:=congrArg StaP.jobs hr
 have l2:=congrArg List.length h2
 have l3:=congrArg List.length h3
 have l4:=congrArg List.length h4
 simp only [List.length_map] at l2 l3 l4
 refine ⟨by rw [h1];exact h.ses,by rw [l2];exact h.blobs,by rw [l3];exact h.win,by rw [l4];exact h.jobs,fun b hb=>?_,fun b hb=>?_,fun j hj=>?_⟩
 ·obtain ⟨c,hc,he⟩:=List.mem_map.1 (h2▸List.mem_map_of_mem (f:=Blob.p) hb)
  have h5:c.data.l=b.data.l:=congrArg BlP.bytes he
  rw [←h5]
  exact h.data c hc
 ·obtain ⟨c,hc,he⟩:=List.mem_map.1 (h3▸List.mem_map_of_mem (f:=Blk.p) hb)
  have h5:c.tx.l=b.tx.l:=congrArg BlkP.txs he
  rw [←h5]
  exact h.tx c hc
 ·obtain ⟨k,hk,he⟩:=List.mem_map.1 (h4▸List.mem_map_of_mem (f:=Job.p) hj)
  obtain ⟨c,hc,he2⟩:=List.mem_map.1 hk
  have h5:(restJ c.p).tiers=(Job.p j).tiers:=by rw [he2,he]
  rw [←fewP_tk (p:=c.pay) (q:=j.pay) h5]
  exact h.pay c hc
set_option maxHeartbeats 2000000
theorem numB_at {n width k:Nat} (hw:width≤8) (hk:1≤k) (hkw:k≤width):(numB n width)[width - k]? =some (UInt8.ofNat (n / 2 ^ (8*(k - 1)))):=by
 unfold numB
 rw [List.getElem?_drop,show 8 - width+(width - k)=8 - k by omega]
 have:k=1∨k=2∨k=3∨k=4∨k=5∨k=6∨k=7∨k=8:=by omega
 rcases this with rfl|rfl|rfl|rfl|rfl|rfl|rfl|rfl<;>simp [be8]
theorem number_any {w0:World} (n width:Nat) (hn:n < 2 ^ 64) (hw:width≤8):Calls Tryz.prog 61 #[.int .u64 n,i64 width] w0 fun e w'=>∃r:Sl UInt8,r.l=numB n width∧e= .returned r.v∧Made (rowR 5 1 u8L r) w0 w':=by
 have hp:=Hp.start (S:=N0) w0
 have hnl:=numB_len n width hw
 refine calls_x (args:= [_,_]) tabOk Tryz.func61 Tryz.ntmps61 Tryz.results61 rfl (Nat.le_of_ble_eq_true rfl) ?_
 ((conv=>whnf);repeat' (((with_reducible apply ar_id);refine ar_i64 (by omega) ?_)<;>(conv=>whnf)))
 have hp0:Hp N0 w0 w0 [rowR 5 1 u8L Sl.nil]:=hp.new (Chg.refl _ _) (r:=rowR 5 1 u8L Sl.nil) (rowR_ok.2 ⟨World.ownsRow_nil w0 0 _ _,by simp [Sl.nil]⟩) fun b hb=>by have h1:=rowR_dom.1 hb;cases h1
 clear hp
 refine lp_inv (α:=Nat×Sl UInt8) (fun a=> [(0, .int .u64 n),(5,a.2.v),(6,i64 ((a.1:Int) - 1))]) (fun a w=>a.1≤width∧a.2.l=(numB n width).take (width - a.1)∧Hp N0 w0 w [rowR 5 1 u8L a.2]) (fun a=>a.1) (width,Sl.nil) (by (repeat' (first|exact trivial|(refine ⟨rfl,?_⟩)))) ⟨by omega,by simp [Sl.nil],hp0⟩ ?_
 clear hp0
 rintro ⟨k,r⟩ e0 w ⟨hk,hr,hp⟩
 dsimp only at hk hr hp ⊢
 have hrl:r.l.length=width - k:=by rw [hr,List.length_take,hnl];omega
 rcases Nat.eq_zero_or_pos k with h0|h0
 ·subst h0
  ((conv=>whnf);repeat' (((with_reducible apply br_id);(with_reducible refine br_dec (fun hx=>?_) (fun hx=>?_))<;>(try (exfalso;first|omega|contradiction)))<;>(conv=>whnf)))
  refine ps_val (v':=r.v) rfl ⟨r,?_,rfl,hp.made1 (j:=0) rfl⟩
  rw [hr,List.take_of_length_le (by omega)]
 ·have hat:=numB_at (n:=n) hw h0 hk
  ((conv=>whnf);repeat' ((first|((with_reducible apply br_id);(with_reducible refine br_dec (fun hx=>?_) (fun hx=>?_))<;>(try (exfalso;first|omega|contradiction)))|((with_reducible apply ar_id);first|(refine ar_n (8*(k - 1)) (by omega) (by omega) ?_)|(refine ar_u8n (n / 2 ^ (8*(k - 1))) rfl ?_)|refine ar_i64 (by omega) ?_)|((with_reducible apply gen_id);first|(refine gen_shr64 rfl n (8*(k - 1)) rfl rfl rfl (by omega) ?_)|((refine gen_bs rfl hp el_u8 u8L (([UInt8.ofNat (n / 2 ^ (8*(k - 1)))]:List UInt8)) ((([UInt8.ofNat (n / 2 ^ (8*(k - 1)))]:List UInt8)).map u8) rfl rfl rfl (fun _ hh=>rfl) (by omega) ?_);clear hp;intro br w hp)|((refine gen_app (s:=r) rfl hp 1 rfl el_u8 rfl ⟨some ⟨br,0,none⟩,1, [UInt8.ofNat (n / 2 ^ (8*(k - 1)))]⟩ rfl (hp.row (j:=0) rfl) (fun _ _=>rfl) u8_one (by simp only [List.length_cons,List.length_nil];omega) (by simp only [maxLen,List.length_cons,List.length_nil];omega) ?_);clear hp;intro A2 c2 w hp;dsimp only [List.set] at hp)))<;>(conv=>whnf)))
  refine lp_next (k - 1,⟨A2,c2,r.l++ [UInt8.ofNat (n / 2 ^ (8*(k - 1)))]⟩) (by show k - 1 < k;omega) ?_ ⟨by show k - 1≤_;omega,?_,hp.tail⟩
  ·have e1:((k:Int) - 1 - 1)=((k - 1:Nat):Int) - 1:=by omega
   dsimp only
   rw [←e1]
   (repeat' (first|exact trivial|(refine ⟨rfl,?_⟩)))
  ·show r.l++ [_]=(numB n width).take (width - (k - 1))
   rw [show width - (k - 1)=width - k+1 by omega,List.take_add_one,hat,hr]
   rfl
theorem rbytesp_any {B:Nat} {w0:World} {p:Payload} (h:PayAt B w0 p) (hBw:B≤w0.heap.size) (hR:rightP p=true):Calls Tryz.prog 62 #[p.pv] w0 fun e w'=>∃r:Sl UInt8,r.l=bytesP p.l∧e= .returned r.v∧Made (rowR 5 1 u8L r) w0 w':=by
 obtain ⟨hr1,hr2,hr3⟩:=rightP_at hR
 have hp:=Hp.start (S:=N0) w0
 have hB:∀b,N0 b→B≤b:=fun _ hh=>hh.elim
 have u1:=Tryz.underlying55
 have u2:=Tryz.underlying34
 have hnb:numB p.l.length 1= [UInt8.ofNat p.l.length]:=by unfold numB be8;simp
 refine calls_x (args:= [_]) tabOk Tryz.func62 Tryz.ntmps62 Tryz.results62 rfl (Nat.le_of_ble_eq_true rfl) ?_
 ((conv=>whnf);repeat' ((first|((with_reducible apply ar_id);(refine ar_u8n p.l.length rfl ?_))|((with_reducible apply ld_id);apply ld_hs hp;(focus repeat' constructor);exact rfl)|((with_reducible apply al_id);refine al_cel hp ?_;clear hp;intro bb w hp)|((with_reducible apply gen_id);first|((refine gen_bs rfl hp el_u8 u8L (([UInt8.ofNat p.l.length]:List UInt8)) ((([UInt8.ofNat p.l.length]:List UInt8)).map u8) rfl rfl rfl (fun _ hh=>rfl) (by omega) ?_);clear hp;intro br w hp)|(apply gen_len;exact rfl;exact rfl;assumption)))<;>(conv=>whnf)))
 obtain ⟨b1,hb1⟩:∃b,b=bb:=⟨_,rfl⟩
 subst hb1
 refine lp_inv (α:=Nat×Sl UInt8) (fun a=> [(1,ptr b1),(3,a.2.v),(4,i64 a.1)]) (fun a w=>a.1≤p.l.length∧a.2.l=numB p.l.length 1++(p.l.take a.1).flatMap tierB∧Hp N0 w0 w [rowR 5 1 u8L a.2,cel b1 57 #[p.v]]) (fun a=>p.l.length - a.1) (0,⟨some ⟨br,0,none⟩,1, [UInt8.ofNat p.l.length]⟩) (by (repeat' (first|exact trivial|(refine ⟨rfl,?_⟩)))) ⟨by omega,by rw [hnb];rfl,hp⟩ ?_
 clear hp
 rintro ⟨i,q⟩ e0 w ⟨hi,hq,hp⟩
 dsimp only at hi hq hp ⊢
 have hql:q.l.length≤1+69*i:=by
  have h1:=flat_le (l:=p.l.take i) fun t ht=>(hr3 t (List.mem_of_mem_take ht)).2
  rw [hq,List.length_append,hnb]
  rw [List.length_take] at h1
  simp only [List.length_cons,List.length_nil]
  omega
 rcases Nat.lt_or_ge i p.l.length with hlt|hge
 ·obtain ⟨b,o,x,hA,hb,hrow,hxx⟩:=h.row.has hlt
  have hmem:=List.mem_of_getElem? hxx
  obtain ⟨hx1,hx2⟩:=hr3 x hmem
  have hx32:=x.fee.toNat_lt
  have hn4:(numB x.fee.toNat 4).length=4:=numB_len _ _ (by omega)
  have hn1:numB x.tx.l.length 1= [UInt8.ofNat x.tx.l.length]:=by unfold numB be8;simp
  ((conv=>whnf);repeat' ((first|((with_reducible apply br_id);(with_reducible refine br_dec (fun hx=>?_) (fun hx=>?_))<;>(try (exfalso;first|omega|contradiction)))|((with_reducible apply ar_id);refine ar_u64 (by omega) ?_)|((with_reducible apply cn_id);refine cn rfl ?_)|((with_reducible apply ld_id);apply ld_hs hp;(focus repeat' constructor);exact rfl)|((with_reducible apply ldn_id);(refine ldn_rowx hp hB ‹_› ‹_› _ rfl ‹_› rfl ?_))|((with_reducible apply al_id);refine al_cel hp ?_;clear hp;intro bb w hp)|((with_reducible apply st_id);apply sta_hs hp;(focus repeat' constructor);exact rfl;exact rfl;clear hp;intro w hp;(try dsimp only [List.set] at hp))|((with_reducible apply gen_id);first|(refine gen_ixs rfl rfl ‹_› rfl rfl (by omega) ?_)|(apply gen_len;exact rfl;exact rfl;assumption)))<;>(conv=>whnf)))
  refine cl_of (number_any x.fee.toNat 4 (by omega) (by omega)) ?_
  rintro e w ⟨rN,hrN,rfl,hm⟩
  replace hp:=hp.add hm
  clear hm
  refine ⟨_,rfl,?_⟩
  have hrNl:rN.l.length=4:=by rw [hrN,hn4]
  ((conv=>whnf);repeat' ((first|((with_reducible apply ar_id);first|(refine ar_u8n x.tx.l.length rfl ?_)|refine ar_i64 (by omega) ?_)|((with_reducible apply ld_id);apply ld_hs hp;(focus repeat' constructor);exact rfl)|((with_reducible apply gen_id);first|((refine gen_app (s:=q) rfl hp 2 rfl el_u8 rfl rN rfl (hp.row (j:=0) rfl) (fun _ _=>rfl) u8_one (by omega) (by simp only [maxLen];omega) ?_);clear hp;intro A1 c1 w hp;dsimp only [List.set] at hp)|((refine gen_bs rfl hp el_u8 u8L (([UInt8.ofNat x.tx.l.length]:List UInt8)) ((([UInt8.ofNat x.tx.l.length]:List UInt8)).map u8) rfl rfl rfl (fun _ hh=>rfl) (by omega) ?_);clear hp;intro br w hp)|((refine gen_app (s:=⟨A1,c1,q.l++rN.l⟩) rfl hp 3 rfl el_u8 rfl ⟨some ⟨br,0,none⟩,1, [UInt8.ofNat x.tx.l.length]⟩ rfl (hp.row (j:=0) rfl) (fun _ _=>rfl) u8_one (by simp only [List.length_append,List.length_cons,List.length_nil];omega) (by simp only [maxLen,List.length_append,List.length_cons,List.length_nil];omega) ?_);clear hp;intro A2 c2 w hp;dsimp only [List.set] at hp)|((refine gen_app (s:=⟨A2,c2,q.l++rN.l++ [UInt8.ofNat x.tx.l.length]⟩) rfl hp 3 rfl el_u8 rfl x.tx rfl ((h.tx x hmem).keep hp.chg hB) (fun _ _=>rfl) u8_one (by simp only [List.length_append,List.length_cons,List.length_nil];omega) (by simp only [maxLen,List.length_append,List.length_cons,List.length_nil];omega) ?_);clear hp;intro A3 c3 w hp;dsimp only [List.set] at hp)|(apply gen_len;exact rfl;exact rfl;assumption)))<;>(conv=>whnf)))
  refine lp_next (i+1,⟨A3,c3,q.l++rN.l++ [UInt8.ofNat x.tx.l.length]++x.tx.l⟩) (by show p.l.length - (i+1) < p.l.length - i;omega) (by (repeat' (first|exact trivial|(refine ⟨rfl,?_⟩)))) ⟨by show i+1≤_;omega,?_,hp.tail.tail.tail⟩
  show q.l++rN.l++ [UInt8.ofNat x.tx.l.length]++x.tx.l=numB p.l.length 1++(p.l.take (i+1)).flatMap tierB
  rw [hrN,hq,List.take_add_one,hxx,List.flatMap_append]
  simp [tierB,hn1,List.append_assoc]
 ·rw [List.take_of_length_le hge] at hq
  ((conv=>whnf);repeat' ((first|((with_reducible apply br_id);(with_reducible refine br_dec (fun hx=>?_) (fun hx=>?_))<;>(try (exfalso;first|omega|contradiction)))|((with_reducible apply ld_id);apply ld_hs hp;(focus repeat' constructor);exact rfl)|((with_reducible apply gen_id);apply gen_len;exact rfl;exact rfl;assumption))<;>(conv=>whnf)))
  exact ps_val (v':=q.v) rfl ⟨q,hq,rfl,hp.made1 (j:=0) rfl⟩
end Go.Proofs.YtpbapnlnheahnaaGreatDoor
