/- MImprintReads38: parts of the proof of ImprintReads: StaSame, ImpReads. No condition of their own. -/
import Derived.Test.YtpbapnlnheahnaaGreatDoorMImprintReads16
import Derived.Test.YtpbapnlnheahnaaGreatDoorMImprintReads37
import Derived.Test.YtpbapnlnheahnaaGreatDoorMImprintReads32
import Derived.Test.YtpbapnlnheahnaaGreatDoorMImprintReads23
import Derived.Test.YtpbapnlnheahnaaGreatDoorMImprintReads6
import Derived.Test.YtpbapnlnheahnaaGreatDoorMImprintReads36
import Derived.Test.YtpbapnlnheahnaaGreatDoorMImprintReads30
set_option linter.unusedSimpArgs false
set_option linter.unusedVariables false
namespace Go.Proofs.YtpbapnlnheahnaaGreatDoor
open Go.RowKit
set_option maxRecDepth 100000
set_option maxHeartbeats 4000000
theorem lst_ne {α β:Type} [DecidableEq β] {f:α→β} {p q:List α} {i:Nat} {x y:α} (hx:p[i]? =some x) (hy:q[i]? =some y) (h:f x≠f y):decide (p.map f=q.map f)=false:=by
 rw [decide_eq_false_iff_not]
 intro hh
 have:=congrArg (·[i]?) hh
 simp [hx,hy] at this
 exact h this
theorem lst_next {α β:Type} {f:α→β} {p q:List α} {i:Nat} {x y:α} (hx:p[i]? =some x) (hy:q[i]? =some y) (h:(p.take i).map f=(q.take i).map f) (he:f x=f y):(p.take (i+1)).map f=(q.take (i+1)).map f:=by
 rw [List.take_add_one,List.take_add_one,hx,hy,List.map_append,List.map_append,h]
 simp [he]
theorem lst_len {α β:Type} [DecidableEq β] {f:α→β} {p q:List α} (h:p.length≠q.length):decide (p.map f=q.map f)=false:=by
 rw [decide_eq_false_iff_not]
 intro e
 have:=congrArg List.length e
 rw [List.length_map,List.length_map] at this
 exact h this
theorem i64_eq (a b:Int):(a==b)=decide (a=b):=by rw [Bool.eq_iff_iff];simp
theorem eq_cfg (x y:Cfg):EqIs Tryz.prog 23 x.v y.v (decide (x=y)):=eqis_of (fs:=Tryz.prog.fieldsOf 23) (by kernel_rfl) (by kernel_rfl) fun w=>by
 have h0:=eqf_cons (P:=Tryz.prog) (w:=w) (d:=9999) (xs:= #[i64 x.dep,i64 x.stp,i64 x.kep,i64 x.ses,i64 x.cap,i64 x.com]) (ys:= #[i64 y.dep,i64 y.stp,i64 y.kep,i64 y.ses,i64 y.cap,i64 y.com]) (f:=((Tryz.prog.fieldsOf 23)[0]?).getD default) (by decide+kernel) (part_word (n:=1) (by kernel_rfl) (v:=i64 x.dep) (by kernel_rfl)) (part_word (n:=1) (by kernel_rfl) (v:=i64 y.dep) (by kernel_rfl)) (run_equalIn_int w 9998 _ .i64 .i64 _ _ (by kernel_rfl)) (eqf_cons (f:=((Tryz.prog.fieldsOf 23)[1]?).getD default) (by decide+kernel) (part_word (n:=1) (by kernel_rfl) (v:=i64 x.stp) (by kernel_rfl)) (part_word (n:=1) (by kernel_rfl) (v:=i64 y.stp) (by kernel_rfl)) (run_equalIn_int w 9998 _ .i64 .i64 _ _ (by kernel_rfl)) (eqf_cons (f:=((Tryz.prog.fieldsOf 23)[2]?).getD default) (by decide+kernel) (part_word (n:=1) (by kernel_rfl) (v:=i64 x.kep) (by kernel_rfl)) (part_word (n:=1) (by kernel_rfl) (v:=i64 y.kep) (by kernel_rfl)) (run_equalIn_int w 9998 _ .i64 .i64 _ _ (by kernel_rfl)) (eqf_cons (f:=((Tryz.prog.fieldsOf 23)[3]?).getD default) (by decide+kernel) (part_word (n:=1) (by kernel_rfl) (v:=i64 x.ses) (by kernel_rfl)) (part_word (n:=1) (by kernel_rfl) (v:=i64 y.ses) (by kernel_rfl)) (run_equalIn_int w 9998 _ .i64 .i64 _ _ (by kernel_rfl)) (eqf_cons (f:=((Tryz.prog.fieldsOf 23)[4]?).getD default) (by decide+kernel) (part_word (n:=1) (by kernel_rfl) (v:=i64 x.cap) (by kernel_rfl)) (part_word (n:=1) (by kernel_rfl) (v:=i64 y.cap) (by kernel_rfl)) (run_equalIn_int w 9998 _ .i64 .i64 _ _ (by kernel_rfl)) (eqf_cons (f:=((Tryz.prog.fieldsOf 23)[5]?).getD default) (by decide+kernel) (part_word (n:=1) (by kernel_rfl) (v:=i64 x.com) (by kernel_rfl)) (part_word (n:=1) (by kernel_rfl) (v:=i64 y.com) (by kernel_rfl)) (run_equalIn_int w 9998 _ .i64 .i64 _ _ (by kernel_rfl)) eqf_nil)))))
 simp only [i64_eq] at h0
 have e:(decide (x.dep=y.dep) && (decide (x.stp=y.stp) && (decide (x.kep=y.kep) && (decide (x.ses=y.ses) && (decide (x.cap=y.cap) && (decide (x.com=y.com) && true))))))=decide (x=y):=by
  rw [Bool.eq_iff_iff]
  cases x;cases y
  simp
 rw [e] at h0
 exact h0
theorem sameW_any {B B':Nat} {w0:World} {s r:Sl Blk} (h:SlAt B w0 Blk.c 65 s) (h':SlAt B' w0 Blk.c 65 r) (ht:∀b∈s.l,SlAt B w0 Id.c 32 b.tx) (ht':∀b∈r.l,SlAt B' w0 Id.c 32 b.tx):Calls Tryz.prog 23 #[s.v,r.v] w0 fun e w'=>e= .returned (.bool (decide (s.l.map Blk.p=r.l.map Blk.p)))∧Chg N0 w0 w':=by
 have hp:=Hp.start (S:=N0) w0
 have hB:∀b,N0 b→B≤b:=fun _ hh=>hh.elim
 have hB':∀b,N0 b→B'≤b:=fun _ hh=>hh.elim
 have hmax:s.l.length≤9223372036854775807:=by have:=h.le;have:=h.max;simp only [maxLen] at this;omega
 have hmax':r.l.length≤9223372036854775807:=by have:=h'.le;have:=h'.max;simp only [maxLen] at this;omega
 have u1:=Tryz.underlying26
 refine calls_x (args:= [_,_]) tabOk Tryz.func23 Tryz.ntmps23 Tryz.results23 rfl (Nat.le_of_ble_eq_true rfl) ?_
 ((conv=>whnf);repeat' ((first|((with_reducible apply br_id);(with_reducible refine br_ne (fun hx=>?_) (fun hx=>?_))<;>(try (exfalso;first|omega|contradiction)))|((with_reducible apply gen_id);apply gen_len;exact rfl;exact rfl;assumption))<;>(conv=>whnf)))
 ·exact ps_val (v':= .bool false) rfl ⟨by rw [lst_len (by omega)],hp.chg⟩
 have hll:s.l.length=r.l.length:=by omega
 refine lp_inv (α:=Nat) (fun i=> [(0,s.v),(1,r.v),(5,i64 i)]) (fun i w=>i≤s.l.length∧(s.l.take i).map Blk.p=(r.l.take i).map Blk.p∧Hp N0 w0 w []) (fun i=>s.l.length - i) 0 (by (repeat' (first|exact trivial|(refine ⟨rfl,?_⟩)))) ⟨by omega,rfl,hp⟩ ?_
 clear hp
 rintro i e0 w ⟨hi,hall,hp⟩
 dsimp only at hi hall hp ⊢
 rcases Nat.lt_or_ge i s.l.length with hlt|hge
 ·obtain ⟨b,o,x,hA,hb,hrow,hxx⟩:=h.has hlt
  obtain ⟨b',o',y,hA',hb',hrow',hyy⟩:=h'.has (i:=i) (by omega)
  have hir:(i:Int) < r.l.length:=by omega
  obtain ⟨q,hq⟩:∃q,sameBlk x y=q:=⟨_,rfl⟩
  have hs:∀{w:World},Chg N0 w0 w→Calls Tryz.prog 82 #[x.v,y.v] w fun e w'=>e= .returned (.bool q)∧Chg N0 w w':=fun {w} hc=>by
   rw [←hq]
   exact sameBlk_any (((ht x (List.mem_of_getElem? hxx)).keep hc hB).more (Nat.le_max_left B B')) (((ht' y (List.mem_of_getElem? hyy)).keep hc hB').more (Nat.le_max_right B B'))
  have hxy:q=true↔x.p=y.p:=by
   rw [←hq]
   unfold sameBlk Blk.p
   simp only [Bool.and_eq_true,decide_eq_true_eq,BlkP.mk.injEq]
  cases q with
  |false=>
   ((conv=>whnf);repeat' ((first|((with_reducible apply br_id);first|with_reducible refine br_f ?_|with_reducible refine br_not ?_|((with_reducible refine br_dec (fun hx=>?_) (fun hx=>?_))<;>(try (exfalso;first|omega|contradiction))))|((with_reducible apply ldn_id);first|(refine ldn_rowx hp hB hb hrow _ rfl hxx rfl ?_)|(refine ldn_rowx hp hB' hb' hrow' _ rfl hyy rfl ?_))|((with_reducible apply gen_id);apply gen_len;exact rfl;exact rfl;assumption)|((with_reducible apply dr_id);refine dr_auto tabOk (by kernel_rfl) (by decide+kernel) ?_;(try replace hp:=hp.drew))|((with_reducible apply cl_id);(refine cl_eq ((hs hp.chg)) rfl rfl ?_;rintro e w ⟨rfl,hcc⟩;replace hp:=hp.call0 hcc;refine ⟨_,rfl,?_⟩))|((with_reducible apply rd_id);first|(refine rd_ixs rfl rfl hA rfl rfl (by omega) ?_)|(refine rd_ixs rfl rfl hA' rfl rfl (by omega) ?_)))<;>(conv=>whnf)))
   exact ps_val (v':= .bool false) rfl ⟨by rw [lst_ne hxx hyy fun e=>by have:=hxy.2 e;cases this],hp.chg⟩
  |true=>
   ((conv=>whnf);repeat' ((first|((with_reducible apply br_id);first|with_reducible refine br_t ?_|with_reducible refine br_not ?_|((with_reducible refine br_dec (fun hx=>?_) (fun hx=>?_))<;>(try (exfalso;first|omega|contradiction))))|((with_reducible apply ar_id);refine ar_i64 (by omega) ?_)|((with_reducible apply ldn_id);first|(refine ldn_rowx hp hB hb hrow _ rfl hxx rfl ?_)|(refine ldn_rowx hp hB' hb' hrow' _ rfl hyy rfl ?_))|((with_reducible apply gen_id);apply gen_len;exact rfl;exact rfl;assumption)|((with_reducible apply dr_id);refine dr_auto tabOk (by kernel_rfl) (by decide+kernel) ?_;(try replace hp:=hp.drew))|((with_reducible apply cl_id);(refine cl_eq ((hs hp.chg)) rfl rfl ?_;rintro e w ⟨rfl,hcc⟩;replace hp:=hp.call0 hcc;refine ⟨_,rfl,?_⟩))|((with_reducible apply rd_id);first|(refine rd_ixs rfl rfl hA rfl rfl (by omega) ?_)|(refine rd_ixs rfl rfl hA' rfl rfl (by omega) ?_)))<;>(conv=>whnf)))
   exact lp_next (i+1) (by show s.l.length - (i+1) < s.l.length - i;omega) (by (repeat' (first|exact trivial|(refine ⟨rfl,?_⟩)))) ⟨by show i+1≤_;omega,lst_next hxx hyy hall (hxy.1 rfl),hp⟩
 ·rw [List.take_of_length_le hge,List.take_of_length_le (by omega)] at hall
  ((conv=>whnf);repeat' ((first|((with_reducible apply br_id);(with_reducible refine br_dec (fun hx=>?_) (fun hx=>?_))<;>(try (exfalso;first|omega|contradiction)))|((with_reducible apply gen_id);apply gen_len;exact rfl;exact rfl;assumption))<;>(conv=>whnf)))
  exact ps_val (v':= .bool true) rfl ⟨by rw [decide_eq_true hall],hp.chg⟩
theorem sameJ_any {B B':Nat} {w0:World} {x y:Job} (h:PayAt B w0 x.pay) (h':PayAt B' w0 y.pay):Calls Tryz.prog 83 #[x.v,y.v] w0 fun e w'=>e= .returned (.bool (decide (x.p=y.p)))∧Chg N0 w0 w':=by
 have hp:=Hp.start (S:=N0) w0
 have hB:∀b,N0 b→B≤b:=fun _ hh=>hh.elim
 have hB':∀b,N0 b→B'≤b:=fun _ hh=>hh.elim
 obtain ⟨q,hq⟩:∃q,sameP x.pay y.pay=q:=⟨_,rfl⟩
 have hn1:(if BinOp.eql=BinOp.eql then true else !true)=true:=rfl
 have hn0:(if BinOp.eql=BinOp.eql then false else !false)=false:=rfl
 have hs:∀{w:World},Chg N0 w0 w→Calls Tryz.prog 123 #[x.pay.pv,y.pay.pv] w fun e w'=>e= .returned (.bool q)∧Chg N0 w w':=fun {w} hc=>by
  rw [←hq]
  have h1:=h.keep hc hB
  have h2:=h'.keep hc hB'
  exact rsamep_any (B:=max B B') ⟨h1.row.more (Nat.le_max_left ..),fun t ht=>(h1.tx t ht).more (Nat.le_max_left ..)⟩ ⟨h2.row.more (Nat.le_max_right ..),fun t ht=>(h2.tx t ht).more (Nat.le_max_right ..)⟩
 have hqp:q=true↔x.pay.l.map tk=y.pay.l.map tk:=by rw [←hq];unfold sameP;simp
 by_cases h1:x.key=y.key
 ·have hk:EqIs Tryz.prog 54 x.key.v y.key.v true:=by have:=eq_key x.key y.key;rwa [decide_eq_true h1] at this
  by_cases h2:x.breach=y.breach
  ·have hb:EqIs Tryz.prog 48 x.breach.v y.breach.v true:=by have:=eq_id x.breach y.breach;rwa [decide_eq_true h2] at this
   by_cases h3:x.height=y.height∧x.mined=y.mined∧x.live=y.live
   ·obtain ⟨h3,h4,h5⟩:=h3
    have e3:(x.height.toNat:Int)=y.height.toNat:=by rw [h3]
    have e4:(x.mined.toNat:Int)=y.mined.toNat:=by rw [h4]
    have hP:decide (x.p=y.p)=q:=by
     rw [Bool.eq_iff_iff,decide_eq_true_eq,hqp]
     unfold Job.p
     simp only [JobP.mk.injEq,h1,h2,h3,h4,h5,true_and]
    rw [hP]
    refine calls_x (args:= [_,_]) tabOk Tryz.func83 Tryz.ntmps83 Tryz.results83 rfl (Nat.le_of_ble_eq_true rfl) ?_
    ((conv=>whnf);repeat' ((first|((with_reducible apply br_id);first|(with_reducible refine br_1 hn1 ?_)|with_reducible refine br_t ?_|((with_reducible refine br_eq (fun hx=>?_) (fun hx=>?_))<;>(try (exfalso;first|omega|contradiction))))|((with_reducible apply ld_id);apply ld_hs hp;(focus repeat' constructor);exact rfl)|((with_reducible apply ldn_id);apply ldn_hs hp;(focus repeat' constructor);exact rfl;exact rfl)|((with_reducible apply al_id);refine al_cel hp ?_;clear hp;intro bb w hp)|((with_reducible apply gen_id);first|(refine gen_eqa rfl rfl rfl hk (by kernel_rfl) (.inl rfl) ?_)|(refine gen_eqa rfl rfl rfl hb (by kernel_rfl) (.inl rfl) ?_))|((with_reducible apply cl_id);(refine cl_eq ((hs hp.chg)) rfl rfl ?_;rintro e w ⟨rfl,hcc⟩;replace hp:=hp.call0 hcc;refine ⟨_,rfl,?_⟩)))<;>(conv=>whnf)))
    all_goals first
     |exact absurd e3 hx
     |exact absurd e4 hx
     |exact absurd h5 hx
     |exact ps_val (v':= .bool q) rfl ⟨rfl,hp.chg⟩
   ·have hP:decide (x.p=y.p)=false:=by
     rw [decide_eq_false_iff_not]
     intro e
     exact h3 ⟨congrArg JobP.height e,congrArg JobP.mined e,congrArg JobP.live e⟩
    rw [hP]
    have e3:¬((x.height.toNat:Int)=y.height.toNat∧(x.mined.toNat:Int)=y.mined.toNat∧x.live=y.live):=fun ⟨a,b,c⟩=>h3 ⟨UInt32.toNat_inj.1 (Int.ofNat.inj a),UInt32.toNat_inj.1 (Int.ofNat.inj b),c⟩
    refine calls_x (args:= [_,_]) tabOk Tryz.func83 Tryz.ntmps83 Tryz.results83 rfl (Nat.le_of_ble_eq_true rfl) ?_
    ((conv=>whnf);repeat' ((first|((with_reducible apply br_id);first|(with_reducible refine br_1 hn1 ?_)|with_reducible refine br_t ?_|with_reducible refine br_f ?_|((with_reducible refine br_eq (fun hx=>?_) (fun hx=>?_))<;>(try (exfalso;first|omega|contradiction))))|((with_reducible apply ld_id);apply ld_hs hp;(focus repeat' constructor);exact rfl)|((with_reducible apply ldn_id);apply ldn_hs hp;(focus repeat' constructor);exact rfl;exact rfl)|((with_reducible apply al_id);refine al_cel hp ?_;clear hp;intro bb w hp)|((with_reducible apply gen_id);first|(refine gen_eqa rfl rfl rfl hk (by kernel_rfl) (.inl rfl) ?_)|(refine gen_eqa rfl rfl rfl hb (by kernel_rfl) (.inl rfl) ?_)))<;>(conv=>whnf)))
    all_goals first
     |exact ps_val (v':= .bool false) rfl ⟨rfl,hp.chg⟩
     |(exfalso;omega)
  ·have hP:decide (x.p=y.p)=false:=by rw [decide_eq_false_iff_not];exact fun e=>h2 (congrArg JobP.breach e)
   rw [hP]
   have hb:EqIs Tryz.prog 48 x.breach.v y.breach.v false:=by have:=eq_id x.breach y.breach;rwa [decide_eq_false h2] at this
   refine calls_x (args:= [_,_]) tabOk Tryz.func83 Tryz.ntmps83 Tryz.results83 rfl (Nat.le_of_ble_eq_true rfl) ?_
   ((conv=>whnf);repeat' ((first|((with_reducible apply br_id);first|(with_reducible refine br_1 hn1 ?_)|(with_reducible refine br_0 hn0 ?_)|with_reducible refine br_t ?_|with_reducible refine br_f ?_)|((with_reducible apply ldn_id);apply ldn_hs hp;(focus repeat' constructor);exact rfl;exact rfl)|((with_reducible apply al_id);refine al_cel hp ?_;clear hp;intro bb w hp)|((with_reducible apply gen_id);first|(refine gen_eqa rfl rfl rfl hk (by kernel_rfl) (.inl rfl) ?_)|(refine gen_eqa rfl rfl rfl hb (by kernel_rfl) (.inl rfl) ?_)))<;>(conv=>whnf)))
   exact ps_val (v':= .bool false) rfl ⟨rfl,hp.chg⟩
 ·have hP:decide (x.p=y.p)=false:=by rw [decide_eq_false_iff_not];exact fun e=>h1 (congrArg JobP.key e)
  rw [hP]
  have hk:EqIs Tryz.prog 54 x.key.v y.key.v false:=by have:=eq_key x.key y.key;rwa [decide_eq_false h1] at this
  refine calls_x (args:= [_,_]) tabOk Tryz.func83 Tryz.ntmps83 Tryz.results83 rfl (Nat.le_of_ble_eq_true rfl) ?_
  ((conv=>whnf);repeat' ((first|((with_reducible apply br_id);first|(with_reducible refine br_0 hn0 ?_)|with_reducible refine br_f ?_)|((with_reducible apply ldn_id);apply ldn_hs hp;(focus repeat' constructor);exact rfl;exact rfl)|((with_reducible apply al_id);refine al_cel hp ?_;clear hp;intro bb w hp)|((with_reducible apply gen_id);(refine gen_eqa rfl rfl rfl hk (by kernel_rfl) (.inl rfl) ?_)))<;>(conv=>whnf)))
  exact ps_val (v':= .bool false) rfl ⟨rfl,hp.chg⟩
theorem sameA_any {B B':Nat} {w0:World} {s r:Sl Job} (h:SlAt B w0 Job.c 38 s) (h':SlAt B' w0 Job.c 38 r) (ht:∀j∈s.l,PayAt B w0 j.pay) (ht':∀j∈r.l,PayAt B' w0 j.pay):Calls Tryz.prog 26 #[s.v,r.v] w0 fun e w'=>e= .returned (.bool (decide (s.l.map Job.p=r.l.map Job.p)))∧Chg N0 w0 w':=by
 have hp:=Hp.start (S:=N0) w0
 have hB:∀b,N0 b→B≤b:=fun _ hh=>hh.elim
 have hB':∀b,N0 b→B'≤b:=fun _ hh=>hh.elim
 have hmax:s.l.length≤9223372036854775807:=by have:=h.le;have:=h.max;simp only [maxLen] at this;omega
 have hmax':r.l.length≤9223372036854775807:=by have:=h'.le;have:=h'.max;simp only [maxLen] at this;omega
 have u1:=Tryz.underlying29
 refine calls_x (args:= [_,_]) tabOk Tryz.func26 Tryz.ntmps26 Tryz.results26 rfl (Nat.le_of_ble_eq_true rfl) ?_
 ((conv=>whnf);repeat' ((first|((with_reducible apply br_id);(with_reducible refine br_ne (fun hx=>?_) (fun hx=>?_))<;>(try (exfalso;first|omega|contradiction)))|((with_reducible apply gen_id);apply gen_len;exact rfl;exact rfl;assumption))<;>(conv=>whnf)))
 ·exact ps_val (v':= .bool false) rfl ⟨by rw [lst_len (by omega)],hp.chg⟩
 have hll:s.l.length=r.l.length:=by omega
 refine lp_inv (α:=Nat) (fun i=> [(0,s.v),(1,r.v),(5,i64 i)]) (fun i w=>i≤s.l.length∧(s.l.take i).map Job.p=(r.l.take i).map Job.p∧Hp N0 w0 w []) (fun i=>s.l.length - i) 0 (by (repeat' (first|exact trivial|(refine ⟨rfl,?_⟩)))) ⟨by omega,rfl,hp⟩ ?_
 clear hp
 rintro i e0 w ⟨hi,hall,hp⟩
 dsimp only at hi hall hp ⊢
 rcases Nat.lt_or_ge i s.l.length with hlt|hge
 ·obtain ⟨b,o,x,hA,hb,hrow,hxx⟩:=h.has hlt
  obtain ⟨b',o',y,hA',hb',hrow',hyy⟩:=h'.has (i:=i) (by omega)
  have hir:(i:Int) < r.l.length:=by omega
  obtain ⟨q,hq⟩:∃q,decide (x.p=y.p)=q:=⟨_,rfl⟩
  have hs:∀{w:World},Chg N0 w0 w→Calls Tryz.prog 83 #[x.v,y.v] w fun e w'=>e= .returned (.bool q)∧Chg N0 w w':=fun {w} hc=>by
   rw [←hq]
   exact sameJ_any ((ht x (List.mem_of_getElem? hxx)).keep hc hB) ((ht' y (List.mem_of_getElem? hyy)).keep hc hB')
  have hxy:q=true↔x.p=y.p:=by rw [←hq,decide_eq_true_eq]
  cases q with
  |false=>
   ((conv=>whnf);repeat' ((first|((with_reducible apply br_id);first|with_reducible refine br_f ?_|with_reducible refine br_not ?_|((with_reducible refine br_dec (fun hx=>?_) (fun hx=>?_))<;>(try (exfalso;first|omega|contradiction))))|((with_reducible apply ldn_id);first|(refine ldn_rowx hp hB hb hrow _ rfl hxx rfl ?_)|(refine ldn_rowx hp hB' hb' hrow' _ rfl hyy rfl ?_))|((with_reducible apply gen_id);apply gen_len;exact rfl;exact rfl;assumption)|((with_reducible apply dr_id);refine dr_auto tabOk (by kernel_rfl) (by decide+kernel) ?_;(try replace hp:=hp.drew))|((with_reducible apply cl_id);(refine cl_eq ((hs hp.chg)) rfl rfl ?_;rintro e w ⟨rfl,hcc⟩;replace hp:=hp.call0 hcc;refine ⟨_,rfl,?_⟩))|((with_reducible apply rd_id);first|(refine rd_ixs rfl rfl hA rfl rfl (by omega) ?_)|(refine rd_ixs rfl rfl hA' rfl rfl (by omega) ?_)))<;>(conv=>whnf)))
   exact ps_val (v':= .bool false) rfl ⟨by rw [lst_ne hxx hyy fun e=>by have:=hxy.2 e;cases this],hp.chg⟩
  |true=>
   ((conv=>whnf);repeat' ((first|((with_reducible apply br_id);first|with_reducible refine br_t ?_|with_reducible refine br_not ?_|((with_reducible refine br_dec (fun hx=>?_) (fun hx=>?_))<;>(try (exfalso;first|omega|contradiction))))|((with_reducible apply ar_id);refine ar_i64 (by omega) ?_)|((with_reducible apply ldn_id);first|(refine ldn_rowx hp hB hb hrow _ rfl hxx rfl ?_)|(refine ldn_rowx hp hB' hb' hrow' _ rfl hyy rfl ?_))|((with_reducible apply gen_id);apply gen_len;exact rfl;exact rfl;assumption)|((with_reducible apply dr_id);refine dr_auto tabOk (by kernel_rfl) (by decide+kernel) ?_;(try replace hp:=hp.drew))|((with_reducible apply cl_id);(refine cl_eq ((hs hp.chg)) rfl rfl ?_;rintro e w ⟨rfl,hcc⟩;replace hp:=hp.call0 hcc;refine ⟨_,rfl,?_⟩))|((with_reducible apply rd_id);first|(refine rd_ixs rfl rfl hA rfl rfl (by omega) ?_)|(refine rd_ixs rfl rfl hA' rfl rfl (by omega) ?_)))<;>(conv=>whnf)))
   exact lp_next (i+1) (by show s.l.length - (i+1) < s.l.length - i;omega) (by (repeat' (first|exact trivial|(refine ⟨rfl,?_⟩)))) ⟨by show i+1≤_;omega,lst_next hxx hyy hall (hxy.1 rfl),hp⟩
 ·rw [List.take_of_length_le hge,List.take_of_length_le (by omega)] at hall
  ((conv=>whnf);repeat' ((first|((with_reducible apply br_id);(with_reducible refine br_dec (fun hx=>?_) (fun hx=>?_))<;>(try (exfalso;first|omega|contradiction)))|((with_reducible apply gen_id);apply gen_len;exact rfl;exact rfl;assumption))<;>(conv=>whnf)))
  exact ps_val (v':= .bool true) rfl ⟨by rw [decide_eq_true hall],hp.chg⟩
theorem sameS_any {B B':Nat} {w0:World} {s r:Sl Sess} (h:SlAt B w0 Sess.c 4 s) (h':SlAt B' w0 Sess.c 4 r):Calls Tryz.prog 24 #[s.v,r.v] w0 fun e w'=>e= .returned (.bool (decide (s.l=r.l)))∧Chg N0 w0 w':=by
 have hp:=Hp.start (S:=N0) w0
 have hB:∀b,N0 b→B≤b:=fun _ hh=>hh.elim
 have hB':∀b,N0 b→B'≤b:=fun _ hh=>hh.elim
 have hmax:s.l.length≤9223372036854775807:=by have:=h.le;have:=h.max;simp only [maxLen] at this;omega
 have hmax':r.l.length≤9223372036854775807:=by have:=h'.le;have:=h'.max;simp only [maxLen] at this;omega
 have hn1:(if BinOp.neq=BinOp.eql then false else !false)=true:=rfl
 have hn0:(if BinOp.neq=BinOp.eql then true else !true)=false:=rfl
 have hid:∀l:List Sess,l.map (fun x=>x)=l:=fun l=>List.map_id' l
 have u1:=Tryz.underlying27
 refine calls_x (args:= [_,_]) tabOk Tryz.func24 Tryz.ntmps24 Tryz.results24 rfl (Nat.le_of_ble_eq_true rfl) ?_
 ((conv=>whnf);repeat' ((first|((with_reducible apply br_id);(with_reducible refine br_ne (fun hx=>?_) (fun hx=>?_))<;>(try (exfalso;first|omega|contradiction)))|((with_reducible apply gen_id);apply gen_len;exact rfl;exact rfl;assumption))<;>(conv=>whnf)))
 ·have:=lst_len (f:=fun x:Sess=>x) (p:=s.l) (q:=r.l) (by omega)
  rw [hid,hid] at this
  exact ps_val (v':= .bool false) rfl ⟨by rw [this],hp.chg⟩
 have hll:s.l.length=r.l.length:=by omega
 refine lp_inv (α:=Nat) (fun i=> [(0,s.v),(1,r.v),(5,i64 i)]) (fun i w=>i≤s.l.length∧s.l.take i=r.l.take i∧Hp N0 w0 w []) (fun i=>s.l.length - i) 0 (by (repeat' (first|exact trivial|(refine ⟨rfl,?_⟩)))) ⟨by omega,rfl,hp⟩ ?_
 clear hp
 rintro i e0 w ⟨hi,hall,hp⟩
 dsimp only at hi hall hp ⊢
 rcases Nat.lt_or_ge i s.l.length with hlt|hge
 ·obtain ⟨b,o,x,hA,hb,hrow,hxx⟩:=h.has hlt
  obtain ⟨b',o',y,hA',hb',hrow',hyy⟩:=h'.has (i:=i) (by omega)
  have hir:(i:Int) < r.l.length:=by omega
  by_cases he:x=y
  ·have hq:EqIs Tryz.prog 103 x.v y.v true:=by have:=eq_sess x y;rwa [decide_eq_true he] at this
   ((conv=>whnf);repeat' ((first|((with_reducible apply br_id);first|(with_reducible refine br_0 hn0 ?_)|((with_reducible refine br_dec (fun hx=>?_) (fun hx=>?_))<;>(try (exfalso;first|omega|contradiction))))|((with_reducible apply ar_id);refine ar_i64 (by omega) ?_)|((with_reducible apply ldn_id);first|(refine ldn_rowx hp hB hb hrow _ rfl hxx rfl ?_)|(refine ldn_rowx hp hB' hb' hrow' _ rfl hyy rfl ?_))|((with_reducible apply gen_id);apply gen_len;exact rfl;exact rfl;assumption)|((with_reducible apply dr_id);refine dr_auto tabOk (by kernel_rfl) (by decide+kernel) ?_;(try replace hp:=hp.drew))|((with_reducible apply rd_id);first|(refine rd_ixs rfl rfl hA rfl rfl (by omega) ?_)|(refine rd_ixs rfl rfl hA' rfl rfl (by omega) ?_)|(refine rd_eqa rfl rfl rfl hq (by kernel_rfl) (.inr rfl) ?_)))<;>(conv=>whnf)))
   have hnx:=lst_next (f:=fun x:Sess=>x) hxx hyy (by rw [hid,hid];exact hall) he
   rw [hid,hid] at hnx
   exact lp_next (i+1) (by show s.l.length - (i+1) < s.l.length - i;omega) (by (repeat' (first|exact trivial|(refine ⟨rfl,?_⟩)))) ⟨by show i+1≤_;omega,hnx,hp⟩
  ·have hq:EqIs Tryz.prog 103 x.v y.v false:=by have:=eq_sess x y;rwa [decide_eq_false he] at this
   ((conv=>whnf);repeat' ((first|((with_reducible apply br_id);first|(with_reducible refine br_1 hn1 ?_)|((with_reducible refine br_dec (fun hx=>?_) (fun hx=>?_))<;>(try (exfalso;first|omega|contradiction))))|((with_reducible apply ldn_id);first|(refine ldn_rowx hp hB hb hrow _ rfl hxx rfl ?_)|(refine ldn_rowx hp hB' hb' hrow' _ rfl hyy rfl ?_))|((with_reducible apply gen_id);apply gen_len;exact rfl;exact rfl;assumption)|((with_reducible apply dr_id);refine dr_auto tabOk (by kernel_rfl) (by decide+kernel) ?_;(try replace hp:=hp.drew))|((with_reducible apply rd_id);first|(refine rd_ixs rfl rfl hA rfl rfl (by omega) ?_)|(refine rd_ixs rfl rfl hA' rfl rfl (by omega) ?_)|(refine rd_eqa rfl rfl rfl hq (by kernel_rfl) (.inr rfl) ?_)))<;>(conv=>whnf)))
   have:=lst_ne (f:=fun x:Sess=>x) hxx hyy he
   rw [hid,hid] at this
   exact ps_val (v':= .bool false) rfl ⟨by rw [this],hp.chg⟩
 ·rw [List.take_of_length_le hge,List.take_of_length_le (by omega)] at hall
  ((conv=>whnf);repeat' ((first|((with_reducible apply br_id);(with_reducible refine br_dec (fun hx=>?_) (fun hx=>?_))<;>(try (exfalso;first|omega|contradiction)))|((with_reducible apply gen_id);apply gen_len;exact rfl;exact rfl;assumption))<;>(conv=>whnf)))
  exact ps_val (v':= .bool true) rfl ⟨by rw [decide_eq_true hall],hp.chg⟩
theorem same31_any {B B':Nat} {w0:World} {x y:Sta} (h:StaAt B w0 x) (h':StaAt B' w0 y):Calls Tryz.prog 11 #[x.v,y.v] w0 fun e w'=>e= .returned (.bool (decide (x.p=y.p)))∧Chg N0 w0 w':=by
 have hp:=Hp.start (S:=N0) w0
 have hB:∀b,N0 b→B≤b:=fun _ hh=>hh.elim
 have hB':∀b,N0 b→B'≤b:=fun _ hh=>hh.elim
 have hn1:(if BinOp.eql=BinOp.eql then true else !true)=true:=rfl
 have hn0:(if BinOp.eql=BinOp.eql then false else !false)=false:=rfl
 obtain ⟨qW,hqW⟩:∃q,decide (x.win.l.map Blk.p=y.win.l.map Blk.p)=q:=⟨_,rfl⟩
 obtain ⟨qS,hqS⟩:∃q,decide (x.ses.l=y.ses.l)=q:=⟨_,rfl⟩
 obtain ⟨qB,hqB⟩:∃q,decide (x.blobs.l.map Blob.p=y.blobs.l.map Blob.p)=q:=⟨_,rfl⟩
 obtain ⟨qJ,hqJ⟩:∃q,decide (x.jobs.l.map Job.p=y.jobs.l.map Job.p)=q:=⟨_,rfl⟩
 have cW:∀{w:World},Chg N0 w0 w→Calls Tryz.prog 23 #[x.win.v,y.win.v] w fun e w'=>e= .returned (.bool qW)∧Chg N0 w w':=fun hc=>by
  rw [←hqW];exact sameW_any (h.win.keep hc hB) (h'.win.keep hc hB') (fun b hb=>(h.tx b hb).keep hc hB) (fun b hb=>(h'.tx b hb).keep hc hB')
 have cS:∀{w:World},Chg N0 w0 w→Calls Tryz.prog 24 #[x.ses.v,y.ses.v] w fun e w'=>e= .returned (.bool qS)∧Chg N0 w w':=fun hc=>by
  rw [←hqS];exact sameS_any (h.ses.keep hc hB) (h'.ses.keep hc hB')
 have cB:∀{w:World},Chg N0 w0 w→Calls Tryz.prog 25 #[x.blobs.v,y.blobs.v] w fun e w'=>e= .returned (.bool qB)∧Chg N0 w w':=fun hc=>by
  rw [←hqB];exact rsame25_any (B:=max B B') ((h.blobs.keep hc hB).more (Nat.le_max_left ..)) ((h'.blobs.keep hc hB').more (Nat.le_max_right ..))
 have cJ:∀{w:World},Chg N0 w0 w→Calls Tryz.prog 26 #[x.jobs.v,y.jobs.v] w fun e w'=>e= .returned (.bool qJ)∧Chg N0 w w':=fun hc=>by
  rw [←hqJ];exact sameA_any (h.jobs.keep hc hB) (h'.jobs.keep hc hB') (fun j hj=>(h.pay j hj).keep hc hB) (fun j hj=>(h'.pay j hj).keep hc hB')
 by_cases h1:x.cfg=y.cfg
 ·have hk:EqIs Tryz.prog 23 x.cfg.v y.cfg.v true:=by have:=eq_cfg x.cfg y.cfg;rwa [decide_eq_true h1] at this
  by_cases h2:x.ht=y.ht∧x.halt=y.halt∧x.next=y.next
  ·obtain ⟨h2,h3,h4⟩:=h2
   have e2:(x.ht.toNat:Int)=y.ht.toNat:=by rw [h2]
   have e4:(x.next.toNat:Int)=y.next.toNat:=by rw [h4]
   have hP:decide (x.p=y.p)=(qW && (qS && (qB && qJ))):=by
    rw [Bool.eq_iff_iff,decide_eq_true_eq,←hqW,←hqS,←hqB,←hqJ]
    unfold Sta.p
    simp only [StaP.mk.injEq,h1,h2,h3,h4,true_and,Bool.and_eq_true,decide_eq_true_eq]
   rw [hP]
   refine calls_x (args:= [_,_]) tabOk Tryz.func11 Tryz.ntmps11 Tryz.results11 rfl (Nat.le_of_ble_eq_true rfl) ?_
   ((conv=>whnf);repeat' ((first|((with_reducible apply br_id);first|(with_reducible refine br_1 hn1 ?_)|with_reducible refine br_t ?_|with_reducible refine br_f ?_|((with_reducible refine br_eq (fun hx=>?_) (fun hx=>?_))<;>(try (exfalso;first|omega|contradiction)))|((with_reducible refine br_s (fun hx=>?_) (fun hx=>?_))<;>(try (exfalso;first|omega|contradiction))))|((with_reducible apply ld_id);apply ld_hs hp;(focus repeat' constructor);exact rfl)|((with_reducible apply ldn_id);apply ldn_hs hp;(focus repeat' constructor);exact rfl;exact rfl)|((with_reducible apply al_id);refine al_cel hp ?_;clear hp;intro bb w hp)|((with_reducible apply gen_id);(refine gen_eqa rfl rfl rfl hk (by kernel_rfl) (.inl rfl) ?_))|((with_reducible apply cl_id);first|((refine cl_eq ((cW hp.chg)) rfl rfl ?_;rintro e w ⟨rfl,hcc⟩;replace hp:=hp.call0 hcc;refine ⟨_,rfl,?_⟩))|((refine cl_eq ((cS hp.chg)) rfl rfl ?_;rintro e w ⟨rfl,hcc⟩;replace hp:=hp.call0 hcc;refine ⟨_,rfl,?_⟩))|((refine cl_eq ((cB hp.chg)) rfl rfl ?_;rintro e w ⟨rfl,hcc⟩;replace hp:=hp.call0 hcc;refine ⟨_,rfl,?_⟩))|((refine cl_eq ((cJ hp.chg)) rfl rfl ?_;rintro e w ⟨rfl,hcc⟩;replace hp:=hp.call0 hcc;refine ⟨_,rfl,?_⟩))))<;>(conv=>whnf)))
   all_goals (try subst qW)
   all_goals first
    |exact ps_val (v':= .bool false) rfl ⟨by simp_all,hp.chg⟩
    |exact ps_val (v':= .bool qJ) rfl ⟨by simp_all,hp.chg⟩
  ·have hP:decide (x.p=y.p)=false:=by
    rw [decide_eq_false_iff_not]
    intro e
    exact h2 ⟨congrArg StaP.ht e,congrArg StaP.halt e,congrArg StaP.next e⟩
   rw [hP]
   have e3:¬((x.ht.toNat:Int)=y.ht.toNat∧x.halt=y.halt∧(x.next.toNat:Int)=y.next.toNat):=fun ⟨a,b,c⟩=>h2 ⟨UInt32.toNat_inj.1 (Int.ofNat.inj a),b,UInt32.toNat_inj.1 (Int.ofNat.inj c)⟩
   refine calls_x (args:= [_,_]) tabOk Tryz.func11 Tryz.ntmps11 Tryz.results11 rfl (Nat.le_of_ble_eq_true rfl) ?_
   ((conv=>whnf);repeat' ((first|((with_reducible apply br_id);first|(with_reducible refine br_1 hn1 ?_)|with_reducible refine br_t ?_|with_reducible refine br_f ?_|((with_reducible refine br_eq (fun hx=>?_) (fun hx=>?_))<;>(try (exfalso;first|omega|contradiction))))|((with_reducible apply ld_id);apply ld_hs hp;(focus repeat' constructor);exact rfl)|((with_reducible apply ldn_id);apply ldn_hs hp;(focus repeat' constructor);exact rfl;exact rfl)|((with_reducible apply al_id);refine al_cel hp ?_;clear hp;intro bb w hp)|((with_reducible apply gen_id);(refine gen_eqa rfl rfl rfl hk (by kernel_rfl) (.inl rfl) ?_)))<;>(conv=>whnf)))
   all_goals first
    |exact ps_val (v':= .bool false) rfl ⟨rfl,hp.chg⟩
    |(exfalso;omega)
 ·have hP:decide (x.p=y.p)=false:=by rw [decide_eq_false_iff_not];exact fun e=>h1 (congrArg StaP.cfg e)
  rw [hP]
  have hk:EqIs Tryz.prog 23 x.cfg.v y.cfg.v false:=by have:=eq_cfg x.cfg y.cfg;rwa [decide_eq_false h1] at this
  refine calls_x (args:= [_,_]) tabOk Tryz.func11 Tryz.ntmps11 Tryz.results11 rfl (Nat.le_of_ble_eq_true rfl) ?_
  ((conv=>whnf);repeat' ((first|((with_reducible apply br_id);first|(with_reducible refine br_0 hn0 ?_)|with_reducible refine br_f ?_)|((with_reducible apply ldn_id);apply ldn_hs hp;(focus repeat' constructor);exact rfl;exact rfl)|((with_reducible apply al_id);refine al_cel hp ?_;clear hp;intro bb w hp)|((with_reducible apply gen_id);(refine gen_eqa rfl rfl rfl hk (by kernel_rfl) (.inl rfl) ?_)))<;>(conv=>whnf)))
  exact ps_val (v':= .bool false) rfl ⟨rfl,hp.chg⟩
open Go.RowKit Go.Stop
set_option maxHeartbeats 500000
theorem flat_ge {α:Type} {f:α→Byt} {m:Nat}:∀{l:List α},(∀a∈l,m≤(f a).length)→m*l.length≤(l.flatMap f).length
 | [],_=>by simp
 |a::l,h=>by
  have h1:=flat_ge (l:=l) fun b hb=>h b (List.mem_cons_of_mem _ hb)
  have h2:=h a (List.mem_cons_self ..)
  rw [List.flatMap_cons,List.length_append,List.length_cons,Nat.mul_add]
  omega
theorem flat_mem {α:Type} {f:α→Byt}:∀{l:List α} {a:α},a∈l→(f a).length≤(l.flatMap f).length
 |b::l,a,h=>by
  rw [List.flatMap_cons,List.length_append]
  rcases List.mem_cons.1 h with rfl|h
  ·omega
  ·have:=flat_mem (f:=f) h
   omega
theorem u32C_len (x:UInt32):(u32C.enc x).length=4:=numB_len _ _ (by omega)
theorem blobC_len (b:BlP):26+b.bytes.length≤(blobC.enc b).length:=by
 have h1:=u32C_len b.key.ses
 have h2:=u32C_len b.key.seq
 have h3:(numB b.bytes.length 2).length=2:=numB_len _ _ (by omega)
 have e:blobC.enc b=u32C.enc b.key.ses++(u32C.enc b.key.seq++(b.hint.toList++(numB b.bytes.length 2++b.bytes))):=rfl
 rw [e]
 simp only [List.length_append,Vector.length_toList]
 omega
theorem jobC_len (j:JobP):50≤(jobC.enc j).length:=by
 have h1:=u32C_len j.key.ses
 have h2:=u32C_len j.key.seq
 have h4:=u32C_len j.height
 have h5:=u32C_len j.mined
 have h3:(numB (payF.enc j.tiers).length 2).length=2:=numB_len _ _ (by omega)
 have e:jobC.enc j=u32C.enc j.key.ses++(u32C.enc j.key.seq++(j.breach.toList++(u32C.enc j.height++(u32C.enc j.mined++(numB (payF.enc j.tiers).length 2++payF.enc j.tiers))))):=rfl
 rw [e]
 simp only [List.length_append,Vector.length_toList]
 omega
theorem few_of_right {p:Payload} (h:rightP p=true):fewP p=true:=by
 obtain ⟨h1,h2,h3⟩:=rightP_at h
 unfold fewP
 simp only [Bool.and_eq_true,List.all_eq_true,decide_eq_true_eq]
 exact ⟨fun t ht=>by have:=h3 t ht;omega,by omega⟩
theorem few_dec {l:Byt} {x:Sta} (hl:l.length≤8000) (h:wholeD staC l= .ok x.p):FewI x:=by
 obtain ⟨h1,h2⟩:=whole_inv staC h
 obtain ⟨⟨_,_,_,_,⟨hw1,hw2⟩,⟨hs1,_⟩,⟨_,_⟩,⟨_,hj2⟩⟩,_⟩:=h1
 have e:staC.enc x.p=cfgC.enc x.cfg++(u32C.enc x.ht++(haltC.enc x.halt++(u32C.enc x.next++((lstC N1 (pckC N2 blkF)).enc (x.win.l.map Blk.p)++((lstC N1 sesC).enc x.ses.l++((N2.enc (x.blobs.l.map Blob.p).length++(x.blobs.l.map Blob.p).flatMap blobC.enc)++(N2.enc (x.jobs.l.map Job.p).length++(x.jobs.l.map Job.p).flatMap jobC.enc))))))):=rfl
 have hlen:=congrArg List.length h2
 rw [e] at hlen
 simp only [List.length_append] at hlen
 have g1:=flat_ge (f:=blobC.enc) (m:=26) (l:=x.blobs.l.map Blob.p) fun a _=>by have:=blobC_len a;omega
 have g2:=flat_ge (f:=jobC.enc) (m:=50) (l:=x.jobs.l.map Job.p) fun a _=>jobC_len a
 rw [List.length_map] at g1 g2
 have hw1:(x.win.l.map Blk.p).length < 256 ^ 1:=hw1
 have hs1:x.ses.l.length < 256 ^ 1:=hs1
 rw [List.length_map] at hw1
 refine ⟨by omega,by omega,by omega,by omega,fun b hb=>?_,fun b hb=>?_,fun j hj=>?_⟩
 ·have m1:=flat_mem (f:=blobC.enc) (List.mem_map_of_mem (f:=Blob.p) hb)
  have m2:=blobC_len b.p
  have m3:b.p.bytes.length=b.data.l.length:=rfl
  omega
 ·have m1:rightBP b.p=true:=(hw2 b.p (List.mem_map_of_mem hb)).1.2
  unfold rightBP at m1
  simp only [Bool.and_eq_true,decide_eq_true_eq] at m1
  have m2:b.p.txs.length=b.tx.l.length:=rfl
  omega
 ·have m1:rightP (payOf j.p.tiers)=true:=(hj2 j.p (List.mem_map_of_mem hj)).1.2.2.2.2.2.1
  refine few_of_right ((rightP_tk (p:=j.pay) (q:=payOf j.p.tiers) ?_).trans m1)
  rw [payOf_tk]
  rfl
theorem decS_whole {l:Byt} (h:(decS l).2=0):wholeD staC l= .ok (decS l).1:=by
 unfold decS at h ⊢
 split at h
 ·cases h
 ·rename_i hl
  rw [if_neg hl]
  cases hw:wholeD staC l with
  |error e=>
   rw [hw] at h
   exact absurd h (whole_err staC hw)
  |ok a=>
   rw [hw] at h
   dsimp only at h ⊢
   split at h
   ·rename_i hr
    rw [if_pos hr]
   ·cases h
theorem impReads_any {w0:World} {s:Sl UInt8} (h:SlAt w0.heap.size w0 u8L 1 s):Calls Tryz.prog 4 #[s.v] w0 fun e w'=>e= .returned (.bool true)∧Chg N0 w0 w':=by
 have hp:=Hp.start (S:=N0) w0
 have hB:∀b,N0 b→w0.heap.size≤b:=fun _ hh=>hh.elim
 have u2:=Tryz.underlying34
 have hmax:s.l.length≤9223372036854775807:=by have:=h.le;have:=h.max;simp only [maxLen] at this;omega
 rcases Nat.lt_or_ge 8000 s.l.length with hl|hl
 ·refine calls_x (args:= [_]) tabOk Tryz.func4 Tryz.ntmps4 Tryz.results4 rfl (Nat.le_of_ble_eq_true rfl) ?_
  ((conv=>whnf);repeat' ((first|((with_reducible apply br_id);(with_reducible refine br_dec (fun hx=>?_) (fun hx=>?_))<;>(try (exfalso;first|omega|contradiction)))|((with_reducible apply gen_id);apply gen_len;exact rfl;exact rfl;assumption)|((with_reducible apply cl_id);(refine cl_eq ((alive32_any _)) rfl rfl ?_;rintro e w ⟨rfl,hcc⟩;replace hp:=hp.call0 hcc;refine ⟨_,rfl,?_⟩)))<;>(conv=>whnf)))
  exact ps_val (v':= .bool true) rfl ⟨rfl,hp.chg⟩
 have hfew:∀x:Sta,wholeD staC s.l= .ok x.p→FewI x:=fun x hx=>few_dec hl hx
 refine calls_x (args:= [_]) tabOk Tryz.func4 Tryz.ntmps4 Tryz.results4 rfl (Nat.le_of_ble_eq_true rfl) ?_
 ((conv=>whnf);repeat' ((first|((with_reducible apply br_id);(with_reducible refine br_dec (fun hx=>?_) (fun hx=>?_))<;>(try (exfalso;first|omega|contradiction)))|((with_reducible apply gen_id);apply gen_len;exact rfl;exact rfl;assumption))<;>(conv=>whnf)))
 refine cl_of (idecode_any (h.keep hp.chg hB) (by omega) hfew) ?_
 rintro e w ⟨x1,hx1,rfl,hm⟩
 replace hp:=hp.add hm
 clear hm
 refine ⟨_,rfl,?_⟩
 obtain ⟨n,hn⟩:∃n,(decS s.l).2=n:=⟨_,rfl⟩
 rw [hn]
 ((conv=>whnf);repeat' ((first|((with_reducible apply cn_id);refine cn rfl ?_)|((with_reducible apply al_id);refine al_cel hp ?_;clear hp;intro bb w hp)|((with_reducible apply st_id);apply sta_hs hp;(focus repeat' constructor);exact rfl;exact rfl;clear hp;intro w hp;(try dsimp only [List.set] at hp)))<;>(conv=>whnf)))
 refine cl_of (rdecS_any (h.keep hp.chg hB) hp.chg.size (by omega) hfew) ?_
 rintro e w ⟨x2,hx2,rfl,hsub,hm⟩
 replace hp:=hp.add hm
 clear hm
 refine ⟨_,rfl,?_⟩
 rw [hn]
 have a1:∀{w:World} {rs:List Res},Hp N0 w0 w rs→star (staRs x1)∈rs→StaAt w.heap.size w x1:=fun hp hm=>hp.sta hm
 have a2:∀{w:World} {rs:List Res},Hp N0 w0 w rs→star (docRs x2)∈rs→StaAt w.heap.size w x2:=fun hp hm=>docRs_at (hp.ok _ hm) (h.keep hp.chg hB) hp.chg.size hsub
 have h12:decide (x1.p=x2.p)=true:=decide_eq_true (by rw [hx1,hx2])
 have hsame:∀{w:World} {rs:List Res},Hp N0 w0 w rs→star (staRs x1)∈rs→star (docRs x2)∈rs→Calls Tryz.prog 11 #[x1.v,x2.v] w fun e w'=>e= .returned (.bool true)∧Chg N0 w w':=fun hp m1 m2=>by rw [←h12];exact same31_any (a1 hp m1) (a2 hp m2)
 have hnn:(n !=n)=false:=by simp
 by_cases hn0:n=0
 ·subst hn0
  have hwh:=decS_whole hn
  rw [←hx1] at hwh
  have hf:=hfew x1 hwh
  have hlv:=live_dec hwh
  have hlv2:∀j∈x1.jobs.l, -9223372036854775808≤j.live∧j.live≤9223372036854775807:=fun j hj=>by rw [hlv j hj];decide
  obtain ⟨hR,_,hle,hst⟩:=decS_ok hn hx1
  have hE:=enc_ok hR hf.blobs hf.jobs
  replace hst:=hst hE
  have hES:encS x1=(s.l,0):=by
   unfold encS
   rw [if_pos hR,hst,if_pos hle]
  ((conv=>whnf);repeat' ((first|((with_reducible apply br_id);first|with_reducible refine br_t ?_|with_reducible refine br_f ?_|with_reducible refine br_not ?_|((with_reducible refine br_ne (fun hx=>?_) (fun hx=>?_))<;>(try (exfalso;first|omega|contradiction))))|((with_reducible apply cn_id);refine cn rfl ?_)|((with_reducible apply ldn_id);apply lda_hs hp;(focus repeat' constructor);exact rfl)|((with_reducible apply al_id);refine al_cel hp ?_;clear hp;intro bb w hp)|((with_reducible apply st_id);apply sta_hs hp;(focus repeat' constructor);exact rfl;exact rfl;clear hp;intro w hp;(try dsimp only [List.set] at hp))|((with_reducible apply cl_id);(refine cl_eq ((hsame hp (by simp) (by simp))) rfl rfl ?_;rintro e w ⟨rfl,hcc⟩;replace hp:=hp.call0 hcc;refine ⟨_,rfl,?_⟩)))<;>(conv=>whnf)))
  refine cl_of (iencode_any (B:=w.heap.size) (a1 hp (by simp)) (Nat.le_refl _) hf hlv2) ?_
  rw [hES]
  rintro e w ⟨r3,hr3,rfl,hm⟩
  replace hp:=hp.add hm
  clear hm
  refine ⟨_,rfl,?_⟩
  have hright:∀{w:World} {rs:List Res},Hp N0 w0 w rs→star (staRs x1)∈rs→Calls Tryz.prog 14 #[x1.v] w fun e w'=>e= .returned (.bool true)∧Chg N0 w w':=fun hp m1=>by rw [←hR];exact rright31_any (a1 hp m1) hf hlv2
  ((conv=>whnf);repeat' ((first|((with_reducible apply br_id);first|(refine br_1 (decide_eq_true hr3) ?_)|with_reducible refine br_t ?_|((with_reducible refine br_eq (fun hx=>?_) (fun hx=>?_))<;>(try (exfalso;first|omega|contradiction))))|((with_reducible apply ldn_id);apply lda_hs hp;(focus repeat' constructor);exact rfl)|((with_reducible apply gen_id);first|(refine gen_b2s rfl (hp.row (j:=0) rfl) u2 Tryz.underlying5 Tryz.underlying9 rfl ?_)|(refine gen_b2s rfl (h.keep hp.chg hB) u2 Tryz.underlying5 Tryz.underlying9 rfl ?_)|(refine gen_streq rfl (a:=r3.l) (b:=s.l) rfl rfl (.inl rfl) ?_))|((with_reducible apply cl_id);first|((refine cl_eq ((hright hp (by simp))) rfl rfl ?_;rintro e w ⟨rfl,hcc⟩;replace hp:=hp.call0 hcc;refine ⟨_,rfl,?_⟩))|((refine cl_eq ((alive32_any _)) rfl rfl ?_;rintro e w ⟨rfl,hcc⟩;replace hp:=hp.call0 hcc;refine ⟨_,rfl,?_⟩))))<;>(conv=>whnf)))
  exact ps_val (v':= .bool true) rfl ⟨rfl,hp.chg⟩
 ·have hnb:(n !=0)=true:=bne_iff_ne.2 hn0
  have hz:decide (x1.p=Sta.z.p)=true:=decide_eq_true (by rw [hx1,decS_no (by rw [hn];exact hn0)];rfl)
  have hzero:∀{w:World} {rs:List Res},Hp N0 w0 w rs→star (staRs x1)∈rs→Calls Tryz.prog 11 #[x1.v,Sta.z.v] w fun e w'=>e= .returned (.bool true)∧Chg N0 w w':=fun hp m1=>by rw [←hz];exact same31_any (a1 hp m1) (staz_at (B:=0))
  ((conv=>whnf);repeat' ((first|((with_reducible apply br_id);first|(with_reducible refine br_0 hnn ?_)|(with_reducible refine br_1 hnb ?_)|with_reducible refine br_t ?_|with_reducible refine br_f ?_|with_reducible refine br_not ?_)|((with_reducible apply cn_id);refine cn rfl ?_)|((with_reducible apply ldn_id);apply lda_hs hp;(focus repeat' constructor);exact rfl)|((with_reducible apply al_id);refine al_cel hp ?_;clear hp;intro bb w hp)|((with_reducible apply st_id);apply sta_hs hp;(focus repeat' constructor);exact rfl;exact rfl;clear hp;intro w hp;(try dsimp only [List.set] at hp))|((with_reducible apply gen_id);apply gen_build;exact rfl;exact rfl)|((with_reducible apply cl_id);first|((refine cl_eq ((hsame hp (by simp) (by simp))) rfl rfl ?_;rintro e w ⟨rfl,hcc⟩;replace hp:=hp.call0 hcc;refine ⟨_,rfl,?_⟩))|((refine cl_eq ((hzero hp (by simp))) rfl rfl ?_;rintro e w ⟨rfl,hcc⟩;replace hp:=hp.call0 hcc;refine ⟨_,rfl,?_⟩))|((refine cl_eq ((alive32_any _)) rfl rfl ?_;rintro e w ⟨rfl,hcc⟩;replace hp:=hp.call0 hcc;refine ⟨_,rfl,?_⟩))))<;>(conv=>whnf)))
  exact ps_val (v':= .bool true) rfl ⟨rfl,hp.chg⟩
end Go.Proofs.YtpbapnlnheahnaaGreatDoor
