/- MRespondAll38: BlobSame, StaSame, Lod. -/
import Derived.Test.YteabebmlclgakaaGreatMRespondAll7
import Derived.Test.YteabebmlclgakaaGreatMRespondAll16
import Derived.Test.YteabebmlclgakaaGreatMRespondAll11
import Derived.Test.YteabebmlclgakaaGreatMRespondAll17
import Derived.Test.YteabebmlclgakaaGreatMRespondAll36
import Derived.Test.YteabebmlclgakaaGreatMRespondAll18
import Derived.Test.YteabebmlclgakaaGreatMRespondAll6
import Derived.Test.YteabebmlclgakaaGreatMRespondAll33
import Derived.Test.YteabebmlclgakaaGreatMRespondAll35
import Derived.Test.YteabebmlclgakaaGreatMRespondAll37
set_option linter.unusedSimpArgs false
set_option linter.unusedVariables false
/- BlobSame: the document's comparison of lists of blobs. No condition. -/
namespace Go.Proofs.YteabebmlclgakaaGreat
open Go.RowKit
set_option maxRecDepth 100000
set_option maxHeartbeats 2000000
theorem p_ne {p q:List Blob} {i:Nat} {x y:Blob} (hx:p[i]? =some x) (hy:q[i]? =some y) (h:x.p≠y.p):decide (p.map (·.p)=q.map (·.p))=false:=by
 rw [decide_eq_false_iff_not]
 intro hh
 have:=congrArg (·[i]?) hh
 simp [hx,hy] at this
 exact h this
theorem rsame25_any {B:Nat} {w0:World} {p q:Sl Blob} (h:BlobsAt B w0 p) (k:BlobsAt B w0 q):Calls Tryz.prog 50 #[p.v,q.v] w0 fun e w'=>e= .returned (.bool (decide (p.l.map (·.p)=q.l.map (·.p))))∧Chg N0 w0 w':=by
 have hp:=Hp.start (S:=N0) w0
 have hB:∀b,N0 b→B≤b:=fun _ hh=>hh.elim
 have us:=Tryz.underlying28
 have u2:=Tryz.underlying38
 have hmax:p.l.length≤9223372036854775807:=by have:=h.row.le;have:=h.row.max;simp only [maxLen] at this;omega
 have hmaq:q.l.length≤9223372036854775807:=by have:=k.row.le;have:=k.row.max;simp only [maxLen] at this;omega
 refine calls_x (args:= [_,_]) tabOk Tryz.func50 Tryz.ntmps50 Tryz.results50 rfl (Nat.le_of_ble_eq_true rfl) ?_
 ((conv=>whnf);repeat' ((first|((with_reducible refine br_id ?_);((with_reducible refine br_ne (fun hx=>?_) (fun hx=>?_))<;>(try (exfalso;first|omega|contradiction))))|((with_reducible refine gen_id ?_);(apply gen_len;exact rfl;exact rfl;assumption)))<;>(conv=>whnf)))
 ·exact ps_val (v':= .bool false) rfl ⟨by rw [decide_eq_false fun e=>by have e:=congrArg List.length e;rw [List.length_map,List.length_map] at e;omega],hp.chg⟩
 have hpq:p.l.length=q.l.length:=by omega
 refine lp_inv (α:=Nat) (fun i=> [(0,p.v),(1,q.v),(5,i64 i)]) (fun i w=>i≤p.l.length∧(p.l.take i).map (·.p)=(q.l.take i).map (·.p)∧Hp N0 w0 w []) (fun i=>p.l.length - i) 0 (by (repeat' (first|exact trivial|(refine ⟨rfl,?_⟩)))) ⟨by omega,by simp,hp⟩ ?_
 clear hp
 rintro i e0 w ⟨hi,hall,hp⟩
 dsimp only at hi hall hp ⊢
 rcases Nat.lt_or_ge i p.l.length with hlt|hge
 ·obtain ⟨b,o,x,hA,hb,hrow,hxx⟩:=h.row.has hlt
  obtain ⟨b',o',y,hA',hb',hrow',hyy⟩:=k.row.has (show i < q.l.length by omega)
  have hiq:(i:Int) < q.l.length:=by omega
  have hmx:=h.data x (List.mem_of_getElem? hxx)
  have hmy:=k.data y (List.mem_of_getElem? hyy)
  have hx2:((Blob.c x).drop 2).take 16=Hint.c x.hint:=rfl
  have hy2:((Blob.c y).drop 2).take 16=Hint.c y.hint:=rfl
  have hx18:(Blob.c x)[18]? =some (Sl.v x.data):=rfl
  have hy18:(Blob.c y)[18]? =some (Sl.v y.data):=rfl
  by_cases h1:x.key.ses=y.key.ses∧x.key.seq=y.key.seq
  ·obtain ⟨h1,h2⟩:=h1
   have e1:(x.key.ses.toNat:Int)=y.key.ses.toNat:=by rw [h1]
   have e2:(x.key.seq.toNat:Int)=y.key.seq.toNat:=by rw [h2]
   by_cases h3:x.hint=y.hint
   ·have hq:EqIs Tryz.prog 37 x.hint.v y.hint.v true:=by have:=eq_hint x.hint y.hint;rwa [decide_eq_true h3] at this
    have hbn:(if BinOp.neq=BinOp.eql then true else !true)=false:=rfl
    by_cases h4:x.data.l=y.data.l
    ·have hbs:(if BinOp.neq=BinOp.eql then decide (x.data.l=y.data.l) else !decide (x.data.l=y.data.l))=false:=by rw [decide_eq_true h4];rfl
     ((conv=>whnf);repeat' ((first|((with_reducible refine br_id ?_);first|((with_reducible refine br_0 hbn ?_))|((with_reducible refine br_0 hbs ?_))|(with_reducible refine br_f ?_)|((with_reducible refine br_dec (fun hx=>?_) (fun hx=>?_))<;>(try (exfalso;first|omega|contradiction)))|((with_reducible refine br_ne (fun hx=>?_) (fun hx=>?_))<;>(try (exfalso;first|omega|contradiction))))|((with_reducible refine ar_id ?_);(refine ar_i64 (by omega) ?_))|((with_reducible refine ld_id ?_);((refine ld_row hp hB ‹_› ‹_› _ _ rfl ‹_› (by rfl) ?_)))|((with_reducible refine ldn_id ?_);((refine ldn_row hp hB ‹_› ‹_› _ _ rfl ‹_› (by rfl) (by rfl) ?_)))|((with_reducible refine gen_id ?_);(apply gen_len;exact rfl;exact rfl;assumption))|((with_reducible refine dr_id ?_);(refine dr_auto tabOk (by kernel_rfl) (by decide+kernel) ?_;(try replace hp:=hp.drew)))|((with_reducible refine rd_id ?_);first|((refine rd_ixs rfl rfl ‹_› rfl rfl (by omega) ?_))|((refine rd_b2s rfl (hmx.keep hp.chg hB) u2 Tryz.underlying5 Tryz.underlying9 rfl ?_))|((refine rd_b2s rfl (hmy.keep hp.chg hB) u2 Tryz.underlying5 Tryz.underlying9 rfl ?_))|((refine rd_streq rfl (a:=x.data.l) (b:=y.data.l) rfl rfl (.inr rfl) ?_))|((refine rd_eqa rfl rfl rfl hq (by kernel_rfl) (.inr rfl) ?_))))<;>(conv=>whnf)))
     have hxy:x.p=y.p:=by
      obtain ⟨⟨a1,a2⟩,a3,a4⟩:=x
      obtain ⟨⟨c1,c2⟩,c3,c4⟩:=y
      show BlP.mk _ _ _=BlP.mk _ _ _
      rw [show a1=c1 from h1,show a2=c2 from h2,show a3=c3 from h3,show a4.l=c4.l from h4]
     all_goals first
      |exact absurd e1 hx
      |exact absurd e2 hx
      |exact lp_next (i+1) (by show p.l.length - (i+1) < p.l.length - i;omega) (by (repeat' (first|exact trivial|(refine ⟨rfl,?_⟩)))) ⟨by show i+1≤_;omega,by show (p.l.take (i+1)).map _=(q.l.take (i+1)).map _;rw [List.take_add_one,List.take_add_one,hxx,hyy,List.map_append,List.map_append,hall];simp [hxy],hp⟩
    ·have hbs:(if BinOp.neq=BinOp.eql then decide (x.data.l=y.data.l) else !decide (x.data.l=y.data.l))=true:=by rw [decide_eq_false h4];rfl
     ((conv=>whnf);repeat' ((first|((with_reducible refine br_id ?_);first|((with_reducible refine br_0 hbn ?_))|((with_reducible refine br_1 hbs ?_))|(with_reducible refine br_f ?_)|((with_reducible refine br_dec (fun hx=>?_) (fun hx=>?_))<;>(try (exfalso;first|omega|contradiction)))|((with_reducible refine br_ne (fun hx=>?_) (fun hx=>?_))<;>(try (exfalso;first|omega|contradiction))))|((with_reducible refine ld_id ?_);((refine ld_row hp hB ‹_› ‹_› _ _ rfl ‹_› (by rfl) ?_)))|((with_reducible refine ldn_id ?_);((refine ldn_row hp hB ‹_› ‹_› _ _ rfl ‹_› (by rfl) (by rfl) ?_)))|((with_reducible refine gen_id ?_);(apply gen_len;exact rfl;exact rfl;assumption))|((with_reducible refine dr_id ?_);(refine dr_auto tabOk (by kernel_rfl) (by decide+kernel) ?_;(try replace hp:=hp.drew)))|((with_reducible refine rd_id ?_);first|((refine rd_ixs rfl rfl ‹_› rfl rfl (by omega) ?_))|((refine rd_b2s rfl (hmx.keep hp.chg hB) u2 Tryz.underlying5 Tryz.underlying9 rfl ?_))|((refine rd_b2s rfl (hmy.keep hp.chg hB) u2 Tryz.underlying5 Tryz.underlying9 rfl ?_))|((refine rd_streq rfl (a:=x.data.l) (b:=y.data.l) rfl rfl (.inr rfl) ?_))|((refine rd_eqa rfl rfl rfl hq (by kernel_rfl) (.inr rfl) ?_))))<;>(conv=>whnf)))
     all_goals first
      |exact absurd e1 hx
      |exact absurd e2 hx
      |exact ps_val (v':= .bool false) rfl ⟨by rw [p_ne hxx hyy fun e=>h4 (congrArg BlP.bytes e)],hp.chg⟩
   ·have hq:EqIs Tryz.prog 37 x.hint.v y.hint.v false:=by have:=eq_hint x.hint y.hint;rwa [decide_eq_false h3] at this
    have hbn:(if BinOp.neq=BinOp.eql then false else !false)=true:=rfl
    ((conv=>whnf);repeat' ((first|((with_reducible refine br_id ?_);first|((with_reducible refine br_1 hbn ?_))|(with_reducible refine br_t ?_)|(with_reducible refine br_f ?_)|((with_reducible refine br_dec (fun hx=>?_) (fun hx=>?_))<;>(try (exfalso;first|omega|contradiction)))|((with_reducible refine br_ne (fun hx=>?_) (fun hx=>?_))<;>(try (exfalso;first|omega|contradiction))))|((with_reducible refine ld_id ?_);((refine ld_row hp hB ‹_› ‹_› _ _ rfl ‹_› (by rfl) ?_)))|((with_reducible refine ldn_id ?_);((refine ldn_row hp hB ‹_› ‹_› _ _ rfl ‹_› (by rfl) (by rfl) ?_)))|((with_reducible refine gen_id ?_);(apply gen_len;exact rfl;exact rfl;assumption))|((with_reducible refine dr_id ?_);(refine dr_auto tabOk (by kernel_rfl) (by decide+kernel) ?_;(try replace hp:=hp.drew)))|((with_reducible refine rd_id ?_);first|((refine rd_ixs rfl rfl ‹_› rfl rfl (by omega) ?_))|((refine rd_eqa rfl rfl rfl hq (by kernel_rfl) (.inr rfl) ?_))))<;>(conv=>whnf)))
    all_goals first
     |exact absurd e1 hx
     |exact absurd e2 hx
     |exact ps_val (v':= .bool false) rfl ⟨by rw [p_ne hxx hyy fun e=>h3 (congrArg BlP.hint e)],hp.chg⟩
  ·have hne:x.p≠y.p:=fun e=>h1 (by have h2:x.key=y.key:=congrArg BlP.key e;rw [h2];exact ⟨rfl,rfl⟩)
   have hne2:¬((x.key.ses.toNat:Int)=y.key.ses.toNat∧(x.key.seq.toNat:Int)=y.key.seq.toNat):=fun ⟨a,b⟩=>h1 ⟨UInt32.toNat_inj.1 (Int.ofNat.inj a),UInt32.toNat_inj.1 (Int.ofNat.inj b)⟩
   ((conv=>whnf);repeat' ((first|((with_reducible refine br_id ?_);first|(with_reducible refine br_t ?_)|(with_reducible refine br_f ?_)|((with_reducible refine br_dec (fun hx=>?_) (fun hx=>?_))<;>(try (exfalso;first|omega|contradiction)))|((with_reducible refine br_ne (fun hx=>?_) (fun hx=>?_))<;>(try (exfalso;first|omega|contradiction))))|((with_reducible refine ld_id ?_);((refine ld_row hp hB ‹_› ‹_› _ _ rfl ‹_› (by rfl) ?_)))|((with_reducible refine gen_id ?_);(apply gen_len;exact rfl;exact rfl;assumption))|((with_reducible refine dr_id ?_);(refine dr_auto tabOk (by kernel_rfl) (by decide+kernel) ?_;(try replace hp:=hp.drew)))|((with_reducible refine rd_id ?_);((refine rd_ixs rfl rfl ‹_› rfl rfl (by omega) ?_))))<;>(conv=>whnf)))
   all_goals exact ps_val (v':= .bool false) rfl ⟨by rw [p_ne hxx hyy hne],hp.chg⟩
 ·rw [List.take_of_length_le hge,List.take_of_length_le (by omega)] at hall
  ((conv=>whnf);repeat' ((first|((with_reducible refine br_id ?_);((with_reducible refine br_dec (fun hx=>?_) (fun hx=>?_))<;>(try (exfalso;first|omega|contradiction))))|((with_reducible refine gen_id ?_);(apply gen_len;exact rfl;exact rfl;assumption)))<;>(conv=>whnf)))
  exact ps_val (v':= .bool true) rfl ⟨by rw [decide_eq_true hall],hp.chg⟩
end Go.Proofs.YteabebmlclgakaaGreat
/- StaSame: the document's comparison of states. No condition. -/
namespace Go.Proofs.YteabebmlclgakaaGreat
open Go.RowKit
set_option maxRecDepth 100000
set_option maxHeartbeats 4000000
theorem lst_ne {α β:Type} [DecidableEq β] {f:α→β} {p q:List α} {i:Nat} {x y:α} (hx:p[i]? =some x) (hy:q[i]? =some y) (h:f x≠f y):decide (p.map f=q.map f)=false:=by
 rw [decide_eq_false_iff_not]
 intro hh
 have:=congrArg (·[i]?) hh
 simp [hx,hy] at this
 exact h this
theorem lst_next {α β:Type} {f:α→β} {p q:List α} {i:Nat} {x y:α} (hx:p[i]? =some x) (hy:q[i]? =some y) (h:(p.take i).map f=(q.take i).map f) (he:f x=f y):(p.take (i+1)).map f=(q.take (i+1)).map f:=by
 rw [List.take_add_one,List.take_add_one,hx,hy,List.map_append,List.map_append,h]
 simp [he]
theorem lst_len {α β:Type} [DecidableEq β] {f:α→β} {p q:List α} (h:p.length≠q.length):decide (p.map f=q.map f)=false:=by
 rw [decide_eq_false_iff_not]
 intro e
 have:=congrArg List.length e
 rw [List.length_map,List.length_map] at this
 exact h this
theorem i64_eq (a b:Int):(a==b)=decide (a=b):=by rw [Bool.eq_iff_iff];simp
theorem eq_cfg (x y:Cfg):EqIs Tryz.prog 23 x.v y.v (decide (x=y)):=eqis_of (fs:=Tryz.prog.fieldsOf 23) (by kernel_rfl) (by kernel_rfl) fun w=>by
 have h0:=eqf_cons (P:=Tryz.prog) (w:=w) (d:=9999) (xs:= #[i64 x.dep,i64 x.stp,i64 x.kep,i64 x.ses,i64 x.cap,i64 x.com]) (ys:= #[i64 y.dep,i64 y.stp,i64 y.kep,i64 y.ses,i64 y.cap,i64 y.com]) (f:=((Tryz.prog.fieldsOf 23)[0]?).getD default) (by decide+kernel) (part_word (n:=1) (by kernel_rfl) (v:=i64 x.dep) (by kernel_rfl)) (part_word (n:=1) (by kernel_rfl) (v:=i64 y.dep) (by kernel_rfl)) (run_equalIn_int w 9998 _ .i64 .i64 _ _ (by kernel_rfl)) (eqf_cons (f:=((Tryz.prog.fieldsOf 23)[1]?).getD default) (by decide+kernel) (part_word (n:=1) (by kernel_rfl) (v:=i64 x.stp) (by kernel_rfl)) (part_word (n:=1) (by kernel_rfl) (v:=i64 y.stp) (by kernel_rfl)) (run_equalIn_int w 9998 _ .i64 .i64 _ _ (by kernel_rfl)) (eqf_cons (f:=((Tryz.prog.fieldsOf 23)[2]?).getD default) (by decide+kernel) (part_word (n:=1) (by kernel_rfl) (v:=i64 x.kep) (by kernel_rfl)) (part_word (n:=1) (by kernel_rfl) (v:=i64 y.kep) (by kernel_rfl)) (run_equalIn_int w 9998 _ .i64 .i64 _ _ (by kernel_rfl)) (eqf_cons (f:=((Tryz.prog.fieldsOf 23)[3]?).getD default) (by decide+kernel) (part_word (n:=1) (by kernel_rfl) (v:=i64 x.ses) (by kernel_rfl)) (part_word (n:=1) (by kernel_rfl) (v:=i64 y.ses) (by kernel_rfl)) (run_equalIn_int w 9998 _ .i64 .i64 _ _ (by kernel_rfl)) (eqf_cons (f:=((Tryz.prog.fieldsOf 23)[4]?).getD default) (by decide+kernel) (part_word (n:=1) (by kernel_rfl) (v:=i64 x.cap) (by kernel_rfl)) (part_word (n:=1) (by kernel_rfl) (v:=i64 y.cap) (by kernel_rfl)) (run_equalIn_int w 9998 _ .i64 .i64 _ _ (by kernel_rfl)) (eqf_cons (f:=((Tryz.prog.fieldsOf 23)[5]?).getD default) (by decide+kernel) (part_word (n:=1) (by kernel_rfl) (v:=i64 x.com) (by kernel_rfl)) (part_word (n:=1) (by kernel_rfl) (v:=i64 y.com) (by kernel_rfl)) (run_equalIn_int w 9998 _ .i64 .i64 _ _ (by kernel_rfl)) eqf_nil)))))
 simp only [i64_eq] at h0
 have e:(decide (x.dep=y.dep) && (decide (x.stp=y.stp) && (decide (x.kep=y.kep) && (decide (x.ses=y.ses) && (decide (x.cap=y.cap) && (decide (x.com=y.com) && true))))))=decide (x=y):=by
  rw [Bool.eq_iff_iff]
  cases x;cases y
  simp
 rw [e] at h0
 exact h0
theorem sameW_any {B B':Nat} {w0:World} {s r:Sl Blk} (h:SlAt B w0 Blk.c 65 s) (h':SlAt B' w0 Blk.c 65 r) (ht:∀b∈s.l,SlAt B w0 Id.c 32 b.tx) (ht':∀b∈r.l,SlAt B' w0 Id.c 32 b.tx):Calls Tryz.prog 48 #[s.v,r.v] w0 fun e w'=>e= .returned (.bool (decide (s.l.map Blk.p=r.l.map Blk.p)))∧Chg N0 w0 w':=by
 have hp:=Hp.start (S:=N0) w0
 have hB:∀b,N0 b→B≤b:=fun _ hh=>hh.elim
 have hB':∀b,N0 b→B'≤b:=fun _ hh=>hh.elim
 have hmax:s.l.length≤9223372036854775807:=by have:=h.le;have:=h.max;simp only [maxLen] at this;omega
 have hmax':r.l.length≤9223372036854775807:=by have:=h'.le;have:=h'.max;simp only [maxLen] at this;omega
 have u1:=Tryz.underlying26
 refine calls_x (args:= [_,_]) tabOk Tryz.func48 Tryz.ntmps48 Tryz.results48 rfl (Nat.le_of_ble_eq_true rfl) ?_
 ((conv=>whnf);repeat' ((first|((with_reducible refine br_id ?_);((with_reducible refine br_ne (fun hx=>?_) (fun hx=>?_))<;>(try (exfalso;first|omega|contradiction))))|((with_reducible refine gen_id ?_);(apply gen_len;exact rfl;exact rfl;assumption)))<;>(conv=>whnf)))
 ·exact ps_val (v':= .bool false) rfl ⟨by rw [lst_len (by omega)],hp.chg⟩
 have hll:s.l.length=r.l.length:=by omega
 refine lp_inv (α:=Nat) (fun i=> [(0,s.v),(1,r.v),(5,i64 i)]) (fun i w=>i≤s.l.length∧(s.l.take i).map Blk.p=(r.l.take i).map Blk.p∧Hp N0 w0 w []) (fun i=>s.l.length - i) 0 (by (repeat' (first|exact trivial|(refine ⟨rfl,?_⟩)))) ⟨by omega,rfl,hp⟩ ?_
 clear hp
 rintro i e0 w ⟨hi,hall,hp⟩
 dsimp only at hi hall hp ⊢
 rcases Nat.lt_or_ge i s.l.length with hlt|hge
 ·obtain ⟨b,o,x,hA,hb,hrow,hxx⟩:=h.has hlt
  obtain ⟨b',o',y,hA',hb',hrow',hyy⟩:=h'.has (i:=i) (by omega)
  have hir:(i:Int) < r.l.length:=by omega
  obtain ⟨q,hq⟩:∃q,sameBlk x y=q:=⟨_,rfl⟩
  have hs:∀{w:World},Chg N0 w0 w→Calls Tryz.prog 93 #[x.v,y.v] w fun e w'=>e= .returned (.bool q)∧Chg N0 w w':=fun {w} hc=>by
   rw [←hq]
   exact sameBlk_any (((ht x (List.mem_of_getElem? hxx)).keep hc hB).more (Nat.le_max_left B B')) (((ht' y (List.mem_of_getElem? hyy)).keep hc hB').more (Nat.le_max_right B B'))
  have hxy:q=true↔x.p=y.p:=by
   rw [←hq]
   unfold sameBlk Blk.p
   simp only [Bool.and_eq_true,decide_eq_true_eq,BlkP.mk.injEq]
  cases q with
  |false=>
   ((conv=>whnf);repeat' ((first|((with_reducible refine br_id ?_);first|(with_reducible refine br_f ?_)|(with_reducible refine br_not ?_)|((with_reducible refine br_dec (fun hx=>?_) (fun hx=>?_))<;>(try (exfalso;first|omega|contradiction))))|((with_reducible refine ldn_id ?_);first|((refine ldn_rowx hp hB hb hrow _ rfl hxx rfl ?_))|((refine ldn_rowx hp hB' hb' hrow' _ rfl hyy rfl ?_)))|((with_reducible refine gen_id ?_);(apply gen_len;exact rfl;exact rfl;assumption))|((with_reducible refine dr_id ?_);(refine dr_auto tabOk (by kernel_rfl) (by decide+kernel) ?_;(try replace hp:=hp.drew)))|((with_reducible refine cl_id ?_);((refine cl_eq ((hs hp.chg)) rfl rfl ?_;rintro e w ⟨rfl,hcc⟩;replace hp:=hp.call0 hcc;refine ⟨_,rfl,?_⟩)))|((with_reducible refine rd_id ?_);first|((refine rd_ixs rfl rfl hA rfl rfl (by omega) ?_))|((refine rd_ixs rfl rfl hA' rfl rfl (by omega) ?_))))<;>(conv=>whnf)))
   exact ps_val (v':= .bool false) rfl ⟨by rw [lst_ne hxx hyy fun e=>by have:=hxy.2 e;cases this],hp.chg⟩
  |true=>
   ((conv=>whnf);repeat' ((first|((with_reducible refine br_id ?_);first|(with_reducible refine br_t ?_)|(with_reducible refine br_not ?_)|((with_reducible refine br_dec (fun hx=>?_) (fun hx=>?_))<;>(try (exfalso;first|omega|contradiction))))|((with_reducible refine ar_id ?_);(refine ar_i64 (by omega) ?_))|((with_reducible refine ldn_id ?_);first|((refine ldn_rowx hp hB hb hrow _ rfl hxx rfl ?_))|((refine ldn_rowx hp hB' hb' hrow' _ rfl hyy rfl ?_)))|((with_reducible refine gen_id ?_);(apply gen_len;exact rfl;exact rfl;assumption))|((with_reducible refine dr_id ?_);(refine dr_auto tabOk (by kernel_rfl) (by decide+kernel) ?_;(try replace hp:=hp.drew)))|((with_reducible refine cl_id ?_);((refine cl_eq ((hs hp.chg)) rfl rfl ?_;rintro e w ⟨rfl,hcc⟩;replace hp:=hp.call0 hcc;refine ⟨_,rfl,?_⟩)))|((with_reducible refine rd_id ?_);first|((refine rd_ixs rfl rfl hA rfl rfl (by omega) ?_))|((refine rd_ixs rfl rfl hA' rfl rfl (by omega) ?_))))<;>(conv=>whnf)))
   exact lp_next (i+1) (by show s.l.length - (i+1) < s.l.length - i;omega) (by (repeat' (first|exact trivial|(refine ⟨rfl,?_⟩)))) ⟨by show i+1≤_;omega,lst_next hxx hyy hall (hxy.1 rfl),hp⟩
 ·rw [List.take_of_length_le hge,List.take_of_length_le (by omega)] at hall
  ((conv=>whnf);repeat' ((first|((with_reducible refine br_id ?_);((with_reducible refine br_dec (fun hx=>?_) (fun hx=>?_))<;>(try (exfalso;first|omega|contradiction))))|((with_reducible refine gen_id ?_);(apply gen_len;exact rfl;exact rfl;assumption)))<;>(conv=>whnf)))
  exact ps_val (v':= .bool true) rfl ⟨by rw [decide_eq_true hall],hp.chg⟩
theorem sameJ_any {B B':Nat} {w0:World} {x y:Job} (h:PayAt B w0 x.pay) (h':PayAt B' w0 y.pay):Calls Tryz.prog 94 #[x.v,y.v] w0 fun e w'=>e= .returned (.bool (decide (x.p=y.p)))∧Chg N0 w0 w':=by
 have hp:=Hp.start (S:=N0) w0
 have hB:∀b,N0 b→B≤b:=fun _ hh=>hh.elim
 have hB':∀b,N0 b→B'≤b:=fun _ hh=>hh.elim
 obtain ⟨q,hq⟩:∃q,sameP x.pay y.pay=q:=⟨_,rfl⟩
 have hn1:(if BinOp.eql=BinOp.eql then true else !true)=true:=rfl
 have hn0:(if BinOp.eql=BinOp.eql then false else !false)=false:=rfl
 have hs:∀{w:World},Chg N0 w0 w→Calls Tryz.prog 180 #[x.pay.pv,y.pay.pv] w fun e w'=>e= .returned (.bool q)∧Chg N0 w w':=fun {w} hc=>by
  rw [←hq]
  have h1:=h.keep hc hB
  have h2:=h'.keep hc hB'
  exact rsamep_any (B:=max B B') ⟨h1.row.more (Nat.le_max_left ..),fun t ht=>(h1.tx t ht).more (Nat.le_max_left ..)⟩ ⟨h2.row.more (Nat.le_max_right ..),fun t ht=>(h2.tx t ht).more (Nat.le_max_right ..)⟩
 have hqp:q=true↔x.pay.l.map tk=y.pay.l.map tk:=by rw [←hq];unfold sameP;simp
 by_cases h1:x.key=y.key
 ·have hk:EqIs Tryz.prog 42 x.key.v y.key.v true:=by have:=eq_key x.key y.key;rwa [decide_eq_true h1] at this
  by_cases h2:x.breach=y.breach
  ·have hb:EqIs Tryz.prog 44 x.breach.v y.breach.v true:=by have:=eq_id x.breach y.breach;rwa [decide_eq_true h2] at this
   by_cases h3:x.height=y.height∧x.mined=y.mined∧x.live=y.live
   ·obtain ⟨h3,h4,h5⟩:=h3
    have e3:(x.height.toNat:Int)=y.height.toNat:=by rw [h3]
    have e4:(x.mined.toNat:Int)=y.mined.toNat:=by rw [h4]
    have hP:decide (x.p=y.p)=q:=by
     rw [Bool.eq_iff_iff,decide_eq_true_eq,hqp]
     unfold Job.p
     simp only [JobP.mk.injEq,h1,h2,h3,h4,h5,true_and]
    rw [hP]
    refine calls_x (args:= [_,_]) tabOk Tryz.func94 Tryz.ntmps94 Tryz.results94 rfl (Nat.le_of_ble_eq_true rfl) ?_
    ((conv=>whnf);repeat' ((first|((with_reducible refine br_id ?_);first|((with_reducible refine br_1 hn1 ?_))|(with_reducible refine br_t ?_)|((with_reducible refine br_eq (fun hx=>?_) (fun hx=>?_))<;>(try (exfalso;first|omega|contradiction))))|((with_reducible refine ld_id ?_);(apply ld_hs hp;(focus repeat' constructor);exact rfl))|((with_reducible refine ldn_id ?_);(apply ldn_hs hp;(focus repeat' constructor);exact rfl;exact rfl))|((with_reducible refine al_id ?_);(refine al_cel hp ?_;clear hp;intro bb w hp))|((with_reducible refine gen_id ?_);first|((refine gen_eqa rfl rfl rfl hk (by kernel_rfl) (.inl rfl) ?_))|((refine gen_eqa rfl rfl rfl hb (by kernel_rfl) (.inl rfl) ?_)))|((with_reducible refine cl_id ?_);((refine cl_eq ((hs hp.chg)) rfl rfl ?_;rintro e w ⟨rfl,hcc⟩;replace hp:=hp.call0 hcc;refine ⟨_,rfl,?_⟩))))<;>(conv=>whnf)))
    all_goals first
     |exact absurd e3 hx
     |exact absurd e4 hx
     |exact absurd h5 hx
     |exact ps_val (v':= .bool q) rfl ⟨rfl,hp.chg⟩
   ·have hP:decide (x.p=y.p)=false:=by
     rw [decide_eq_false_iff_not]
     intro e
     exact h3 ⟨congrArg JobP.height e,congrArg JobP.mined e,congrArg JobP.live e⟩
    rw [hP]
    have e3:¬((x.height.toNat:Int)=y.height.toNat∧(x.mined.toNat:Int)=y.mined.toNat∧x.live=y.live):=fun ⟨a,b,c⟩=>h3 ⟨UInt32.toNat_inj.1 (Int.ofNat.inj a),UInt32.toNat_inj.1 (Int.ofNat.inj b),c⟩
    refine calls_x (args:= [_,_]) tabOk Tryz.func94 Tryz.ntmps94 Tryz.results94 rfl (Nat.le_of_ble_eq_true rfl) ?_
    ((conv=>whnf);repeat' ((first|((with_reducible refine br_id ?_);first|((with_reducible refine br_1 hn1 ?_))|(with_reducible refine br_t ?_)|(with_reducible refine br_f ?_)|((with_reducible refine br_eq (fun hx=>?_) (fun hx=>?_))<;>(try (exfalso;first|omega|contradiction))))|((with_reducible refine ld_id ?_);(apply ld_hs hp;(focus repeat' constructor);exact rfl))|((with_reducible refine ldn_id ?_);(apply ldn_hs hp;(focus repeat' constructor);exact rfl;exact rfl))|((with_reducible refine al_id ?_);(refine al_cel hp ?_;clear hp;intro bb w hp))|((with_reducible refine gen_id ?_);first|((refine gen_eqa rfl rfl rfl hk (by kernel_rfl) (.inl rfl) ?_))|((refine gen_eqa rfl rfl rfl hb (by kernel_rfl) (.inl rfl) ?_))))<;>(conv=>whnf)))
    all_goals first
     |exact ps_val (v':= .bool false) rfl ⟨rfl,hp.chg⟩
     |(exfalso;omega)
  ·have hP:decide (x.p=y.p)=false:=by rw [decide_eq_false_iff_not];exact fun e=>h2 (congrArg JobP.breach e)
   rw [hP]
   have hb:EqIs Tryz.prog 44 x.breach.v y.breach.v false:=by have:=eq_id x.breach y.breach;rwa [decide_eq_false h2] at this
   refine calls_x (args:= [_,_]) tabOk Tryz.func94 Tryz.ntmps94 Tryz.results94 rfl (Nat.le_of_ble_eq_true rfl) ?_
   ((conv=>whnf);repeat' ((first|((with_reducible refine br_id ?_);first|((with_reducible refine br_1 hn1 ?_))|((with_reducible refine br_0 hn0 ?_))|(with_reducible refine br_t ?_)|(with_reducible refine br_f ?_))|((with_reducible refine ldn_id ?_);(apply ldn_hs hp;(focus repeat' constructor);exact rfl;exact rfl))|((with_reducible refine al_id ?_);(refine al_cel hp ?_;clear hp;intro bb w hp))|((with_reducible refine gen_id ?_);first|((refine gen_eqa rfl rfl rfl hk (by kernel_rfl) (.inl rfl) ?_))|((refine gen_eqa rfl rfl rfl hb (by kernel_rfl) (.inl rfl) ?_))))<;>(conv=>whnf)))
   exact ps_val (v':= .bool false) rfl ⟨rfl,hp.chg⟩
 ·have hP:decide (x.p=y.p)=false:=by rw [decide_eq_false_iff_not];exact fun e=>h1 (congrArg JobP.key e)
  rw [hP]
  have hk:EqIs Tryz.prog 42 x.key.v y.key.v false:=by have:=eq_key x.key y.key;rwa [decide_eq_false h1] at this
  refine calls_x (args:= [_,_]) tabOk Tryz.func94 Tryz.ntmps94 Tryz.results94 rfl (Nat.le_of_ble_eq_true rfl) ?_
  ((conv=>whnf);repeat' ((first|((with_reducible refine br_id ?_);first|((with_reducible refine br_0 hn0 ?_))|(with_reducible refine br_f ?_))|((with_reducible refine ldn_id ?_);(apply ldn_hs hp;(focus repeat' constructor);exact rfl;exact rfl))|((with_reducible refine al_id ?_);(refine al_cel hp ?_;clear hp;intro bb w hp))|((with_reducible refine gen_id ?_);((refine gen_eqa rfl rfl rfl hk (by kernel_rfl) (.inl rfl) ?_))))<;>(conv=>whnf)))
  exact ps_val (v':= .bool false) rfl ⟨rfl,hp.chg⟩
theorem sameA_any {B B':Nat} {w0:World} {s r:Sl Job} (h:SlAt B w0 Job.c 38 s) (h':SlAt B' w0 Job.c 38 r) (ht:∀j∈s.l,PayAt B w0 j.pay) (ht':∀j∈r.l,PayAt B' w0 j.pay):Calls Tryz.prog 51 #[s.v,r.v] w0 fun e w'=>e= .returned (.bool (decide (s.l.map Job.p=r.l.map Job.p)))∧Chg N0 w0 w':=by
 have hp:=Hp.start (S:=N0) w0
 have hB:∀b,N0 b→B≤b:=fun _ hh=>hh.elim
 have hB':∀b,N0 b→B'≤b:=fun _ hh=>hh.elim
 have hmax:s.l.length≤9223372036854775807:=by have:=h.le;have:=h.max;simp only [maxLen] at this;omega
 have hmax':r.l.length≤9223372036854775807:=by have:=h'.le;have:=h'.max;simp only [maxLen] at this;omega
 have u1:=Tryz.underlying29
 refine calls_x (args:= [_,_]) tabOk Tryz.func51 Tryz.ntmps51 Tryz.results51 rfl (Nat.le_of_ble_eq_true rfl) ?_
 ((conv=>whnf);repeat' ((first|((with_reducible refine br_id ?_);((with_reducible refine br_ne (fun hx=>?_) (fun hx=>?_))<;>(try (exfalso;first|omega|contradiction))))|((with_reducible refine gen_id ?_);(apply gen_len;exact rfl;exact rfl;assumption)))<;>(conv=>whnf)))
 ·exact ps_val (v':= .bool false) rfl ⟨by rw [lst_len (by omega)],hp.chg⟩
 have hll:s.l.length=r.l.length:=by omega
 refine lp_inv (α:=Nat) (fun i=> [(0,s.v),(1,r.v),(5,i64 i)]) (fun i w=>i≤s.l.length∧(s.l.take i).map Job.p=(r.l.take i).map Job.p∧Hp N0 w0 w []) (fun i=>s.l.length - i) 0 (by (repeat' (first|exact trivial|(refine ⟨rfl,?_⟩)))) ⟨by omega,rfl,hp⟩ ?_
 clear hp
 rintro i e0 w ⟨hi,hall,hp⟩
 dsimp only at hi hall hp ⊢
 rcases Nat.lt_or_ge i s.l.length with hlt|hge
 ·obtain ⟨b,o,x,hA,hb,hrow,hxx⟩:=h.has hlt
  obtain ⟨b',o',y,hA',hb',hrow',hyy⟩:=h'.has (i:=i) (by omega)
  have hir:(i:Int) < r.l.length:=by omega
  obtain ⟨q,hq⟩:∃q,decide (x.p=y.p)=q:=⟨_,rfl⟩
  have hs:∀{w:World},Chg N0 w0 w→Calls Tryz.prog 94 #[x.v,y.v] w fun e w'=>e= .returned (.bool q)∧Chg N0 w w':=fun {w} hc=>by
   rw [←hq]
   exact sameJ_any ((ht x (List.mem_of_getElem? hxx)).keep hc hB) ((ht' y (List.mem_of_getElem? hyy)).keep hc hB')
  have hxy:q=true↔x.p=y.p:=by rw [←hq,decide_eq_true_eq]
  cases q with
  |false=>
   ((conv=>whnf);repeat' ((first|((with_reducible refine br_id ?_);first|(with_reducible refine br_f ?_)|(with_reducible refine br_not ?_)|((with_reducible refine br_dec (fun hx=>?_) (fun hx=>?_))<;>(try (exfalso;first|omega|contradiction))))|((with_reducible refine ldn_id ?_);first|((refine ldn_rowx hp hB hb hrow _ rfl hxx rfl ?_))|((refine ldn_rowx hp hB' hb' hrow' _ rfl hyy rfl ?_)))|((with_reducible refine gen_id ?_);(apply gen_len;exact rfl;exact rfl;assumption))|((with_reducible refine dr_id ?_);(refine dr_auto tabOk (by kernel_rfl) (by decide+kernel) ?_;(try replace hp:=hp.drew)))|((with_reducible refine cl_id ?_);((refine cl_eq ((hs hp.chg)) rfl rfl ?_;rintro e w ⟨rfl,hcc⟩;replace hp:=hp.call0 hcc;refine ⟨_,rfl,?_⟩)))|((with_reducible refine rd_id ?_);first|((refine rd_ixs rfl rfl hA rfl rfl (by omega) ?_))|((refine rd_ixs rfl rfl hA' rfl rfl (by omega) ?_))))<;>(conv=>whnf)))
   exact ps_val (v':= .bool false) rfl ⟨by rw [lst_ne hxx hyy fun e=>by have:=hxy.2 e;cases this],hp.chg⟩
  |true=>
   ((conv=>whnf);repeat' ((first|((with_reducible refine br_id ?_);first|(with_reducible refine br_t ?_)|(with_reducible refine br_not ?_)|((with_reducible refine br_dec (fun hx=>?_) (fun hx=>?_))<;>(try (exfalso;first|omega|contradiction))))|((with_reducible refine ar_id ?_);(refine ar_i64 (by omega) ?_))|((with_reducible refine ldn_id ?_);first|((refine ldn_rowx hp hB hb hrow _ rfl hxx rfl ?_))|((refine ldn_rowx hp hB' hb' hrow' _ rfl hyy rfl ?_)))|((with_reducible refine gen_id ?_);(apply gen_len;exact rfl;exact rfl;assumption))|((with_reducible refine dr_id ?_);(refine dr_auto tabOk (by kernel_rfl) (by decide+kernel) ?_;(try replace hp:=hp.drew)))|((with_reducible refine cl_id ?_);((refine cl_eq ((hs hp.chg)) rfl rfl ?_;rintro e w ⟨rfl,hcc⟩;replace hp:=hp.call0 hcc;refine ⟨_,rfl,?_⟩)))|((with_reducible refine rd_id ?_);first|((refine rd_ixs rfl rfl hA rfl rfl (by omega) ?_))|((refine rd_ixs rfl rfl hA' rfl rfl (by omega) ?_))))<;>(conv=>whnf)))
   exact lp_next (i+1) (by show s.l.length - (i+1) < s.l.length - i;omega) (by (repeat' (first|exact trivial|(refine ⟨rfl,?_⟩)))) ⟨by show i+1≤_;omega,lst_next hxx hyy hall (hxy.1 rfl),hp⟩
 ·rw [List.take_of_length_le hge,List.take_of_length_le (by omega)] at hall
  ((conv=>whnf);repeat' ((first|((with_reducible refine br_id ?_);((with_reducible refine br_dec (fun hx=>?_) (fun hx=>?_))<;>(try (exfalso;first|omega|contradiction))))|((with_reducible refine gen_id ?_);(apply gen_len;exact rfl;exact rfl;assumption)))<;>(conv=>whnf)))
  exact ps_val (v':= .bool true) rfl ⟨by rw [decide_eq_true hall],hp.chg⟩
theorem sameS_any {B B':Nat} {w0:World} {s r:Sl Sess} (h:SlAt B w0 Sess.c 4 s) (h':SlAt B' w0 Sess.c 4 r):Calls Tryz.prog 49 #[s.v,r.v] w0 fun e w'=>e= .returned (.bool (decide (s.l=r.l)))∧Chg N0 w0 w':=by
 have hp:=Hp.start (S:=N0) w0
 have hB:∀b,N0 b→B≤b:=fun _ hh=>hh.elim
 have hB':∀b,N0 b→B'≤b:=fun _ hh=>hh.elim
 have hmax:s.l.length≤9223372036854775807:=by have:=h.le;have:=h.max;simp only [maxLen] at this;omega
 have hmax':r.l.length≤9223372036854775807:=by have:=h'.le;have:=h'.max;simp only [maxLen] at this;omega
 have hn1:(if BinOp.neq=BinOp.eql then false else !false)=true:=rfl
 have hn0:(if BinOp.neq=BinOp.eql then true else !true)=false:=rfl
 have hid:∀l:List Sess,l.map (fun x=>x)=l:=fun l=>List.map_id' l
 have u1:=Tryz.underlying27
 refine calls_x (args:= [_,_]) tabOk Tryz.func49 Tryz.ntmps49 Tryz.results49 rfl (Nat.le_of_ble_eq_true rfl) ?_
 ((conv=>whnf);repeat' ((first|((with_reducible refine br_id ?_);((with_reducible refine br_ne (fun hx=>?_) (fun hx=>?_))<;>(try (exfalso;first|omega|contradiction))))|((with_reducible refine gen_id ?_);(apply gen_len;exact rfl;exact rfl;assumption)))<;>(conv=>whnf)))
 ·have:=lst_len (f:=fun x:Sess=>x) (p:=s.l) (q:=r.l) (by omega)
  rw [hid,hid] at this
  exact ps_val (v':= .bool false) rfl ⟨by rw [this],hp.chg⟩
 have hll:s.l.length=r.l.length:=by omega
 refine lp_inv (α:=Nat) (fun i=> [(0,s.v),(1,r.v),(5,i64 i)]) (fun i w=>i≤s.l.length∧s.l.take i=r.l.take i∧Hp N0 w0 w []) (fun i=>s.l.length - i) 0 (by (repeat' (first|exact trivial|(refine ⟨rfl,?_⟩)))) ⟨by omega,rfl,hp⟩ ?_
 clear hp
 rintro i e0 w ⟨hi,hall,hp⟩
 dsimp only at hi hall hp ⊢
 rcases Nat.lt_or_ge i s.l.length with hlt|hge
 ·obtain ⟨b,o,x,hA,hb,hrow,hxx⟩:=h.has hlt
  obtain ⟨b',o',y,hA',hb',hrow',hyy⟩:=h'.has (i:=i) (by omega)
  have hir:(i:Int) < r.l.length:=by omega
  by_cases he:x=y
  ·have hq:EqIs Tryz.prog 56 x.v y.v true:=by have:=eq_sess x y;rwa [decide_eq_true he] at this
   ((conv=>whnf);repeat' ((first|((with_reducible refine br_id ?_);first|((with_reducible refine br_0 hn0 ?_))|((with_reducible refine br_dec (fun hx=>?_) (fun hx=>?_))<;>(try (exfalso;first|omega|contradiction))))|((with_reducible refine ar_id ?_);(refine ar_i64 (by omega) ?_))|((with_reducible refine ldn_id ?_);first|((refine ldn_rowx hp hB hb hrow _ rfl hxx rfl ?_))|((refine ldn_rowx hp hB' hb' hrow' _ rfl hyy rfl ?_)))|((with_reducible refine gen_id ?_);(apply gen_len;exact rfl;exact rfl;assumption))|((with_reducible refine dr_id ?_);(refine dr_auto tabOk (by kernel_rfl) (by decide+kernel) ?_;(try replace hp:=hp.drew)))|((with_reducible refine rd_id ?_);first|((refine rd_ixs rfl rfl hA rfl rfl (by omega) ?_))|((refine rd_ixs rfl rfl hA' rfl rfl (by omega) ?_))|((refine rd_eqa rfl rfl rfl hq (by kernel_rfl) (.inr rfl) ?_))))<;>(conv=>whnf)))
   have hnx:=lst_next (f:=fun x:Sess=>x) hxx hyy (by rw [hid,hid];exact hall) he
   rw [hid,hid] at hnx
   exact lp_next (i+1) (by show s.l.length - (i+1) < s.l.length - i;omega) (by (repeat' (first|exact trivial|(refine ⟨rfl,?_⟩)))) ⟨by show i+1≤_;omega,hnx,hp⟩
  ·have hq:EqIs Tryz.prog 56 x.v y.v false:=by have:=eq_sess x y;rwa [decide_eq_false he] at this
   ((conv=>whnf);repeat' ((first|((with_reducible refine br_id ?_);first|((with_reducible refine br_1 hn1 ?_))|((with_reducible refine br_dec (fun hx=>?_) (fun hx=>?_))<;>(try (exfalso;first|omega|contradiction))))|((with_reducible refine ldn_id ?_);first|((refine ldn_rowx hp hB hb hrow _ rfl hxx rfl ?_))|((refine ldn_rowx hp hB' hb' hrow' _ rfl hyy rfl ?_)))|((with_reducible refine gen_id ?_);(apply gen_len;exact rfl;exact rfl;assumption))|((with_reducible refine dr_id ?_);(refine dr_auto tabOk (by kernel_rfl) (by decide+kernel) ?_;(try replace hp:=hp.drew)))|((with_reducible refine rd_id ?_);first|((refine rd_ixs rfl rfl hA rfl rfl (by omega) ?_))|((refine rd_ixs rfl rfl hA' rfl rfl (by omega) ?_))|((refine rd_eqa rfl rfl rfl hq (by kernel_rfl) (.inr rfl) ?_))))<;>(conv=>whnf)))
   have:=lst_ne (f:=fun x:Sess=>x) hxx hyy he
   rw [hid,hid] at this
   exact ps_val (v':= .bool false) rfl ⟨by rw [this],hp.chg⟩
 ·rw [List.take_of_length_le hge,List.take_of_length_le (by omega)] at hall
  ((conv=>whnf);repeat' ((first|((with_reducible refine br_id ?_);((with_reducible refine br_dec (fun hx=>?_) (fun hx=>?_))<;>(try (exfalso;first|omega|contradiction))))|((with_reducible refine gen_id ?_);(apply gen_len;exact rfl;exact rfl;assumption)))<;>(conv=>whnf)))
  exact ps_val (v':= .bool true) rfl ⟨by rw [decide_eq_true hall],hp.chg⟩
theorem same31_any {B B':Nat} {w0:World} {x y:Sta} (h:StaAt B w0 x) (h':StaAt B' w0 y):Calls Tryz.prog 12 #[x.v,y.v] w0 fun e w'=>e= .returned (.bool (decide (x.p=y.p)))∧Chg N0 w0 w':=by
 have hp:=Hp.start (S:=N0) w0
 have hB:∀b,N0 b→B≤b:=fun _ hh=>hh.elim
 have hB':∀b,N0 b→B'≤b:=fun _ hh=>hh.elim
 have hn1:(if BinOp.eql=BinOp.eql then true else !true)=true:=rfl
 have hn0:(if BinOp.eql=BinOp.eql then false else !false)=false:=rfl
 obtain ⟨qW,hqW⟩:∃q,decide (x.win.l.map Blk.p=y.win.l.map Blk.p)=q:=⟨_,rfl⟩
 obtain ⟨qS,hqS⟩:∃q,decide (x.ses.l=y.ses.l)=q:=⟨_,rfl⟩
 obtain ⟨qB,hqB⟩:∃q,decide (x.blobs.l.map Blob.p=y.blobs.l.map Blob.p)=q:=⟨_,rfl⟩
 obtain ⟨qJ,hqJ⟩:∃q,decide (x.jobs.l.map Job.p=y.jobs.l.map Job.p)=q:=⟨_,rfl⟩
 have cW:∀{w:World},Chg N0 w0 w→Calls Tryz.prog 48 #[x.win.v,y.win.v] w fun e w'=>e= .returned (.bool qW)∧Chg N0 w w':=fun hc=>by
  rw [←hqW];exact sameW_any (h.win.keep hc hB) (h'.win.keep hc hB') (fun b hb=>(h.tx b hb).keep hc hB) (fun b hb=>(h'.tx b hb).keep hc hB')
 have cS:∀{w:World},Chg N0 w0 w→Calls Tryz.prog 49 #[x.ses.v,y.ses.v] w fun e w'=>e= .returned (.bool qS)∧Chg N0 w w':=fun hc=>by
  rw [←hqS];exact sameS_any (h.ses.keep hc hB) (h'.ses.keep hc hB')
 have cB:∀{w:World},Chg N0 w0 w→Calls Tryz.prog 50 #[x.blobs.v,y.blobs.v] w fun e w'=>e= .returned (.bool qB)∧Chg N0 w w':=fun hc=>by
  rw [←hqB];exact rsame25_any (B:=max B B') ((h.blobs.keep hc hB).more (Nat.le_max_left ..)) ((h'.blobs.keep hc hB').more (Nat.le_max_right ..))
 have cJ:∀{w:World},Chg N0 w0 w→Calls Tryz.prog 51 #[x.jobs.v,y.jobs.v] w fun e w'=>e= .returned (.bool qJ)∧Chg N0 w w':=fun hc=>by
  rw [←hqJ];exact sameA_any (h.jobs.keep hc hB) (h'.jobs.keep hc hB') (fun j hj=>(h.pay j hj).keep hc hB) (fun j hj=>(h'.pay j hj).keep hc hB')
 by_cases h1:x.cfg=y.cfg
 ·have hk:EqIs Tryz.prog 23 x.cfg.v y.cfg.v true:=by have:=eq_cfg x.cfg y.cfg;rwa [decide_eq_true h1] at this
  by_cases h2:x.ht=y.ht∧x.halt=y.halt∧x.next=y.next
  ·obtain ⟨h2,h3,h4⟩:=h2
   have e2:(x.ht.toNat:Int)=y.ht.toNat:=by rw [h2]
   have e4:(x.next.toNat:Int)=y.next.toNat:=by rw [h4]
   have hP:decide (x.p=y.p)=(qW && (qS && (qB && qJ))):=by
    rw [Bool.eq_iff_iff,decide_eq_true_eq,←hqW,←hqS,←hqB,←hqJ]
    unfold Sta.p
    simp only [StaP.mk.injEq,h1,h2,h3,h4,true_and,Bool.and_eq_true,decide_eq_true_eq]
   rw [hP]
   refine calls_x (args:= [_,_]) tabOk Tryz.func12 Tryz.ntmps12 Tryz.results12 rfl (Nat.le_of_ble_eq_true rfl) ?_
   ((conv=>whnf);repeat' ((first|((with_reducible refine br_id ?_);first|((with_reducible refine br_1 hn1 ?_))|(with_reducible refine br_t ?_)|(with_reducible refine br_f ?_)|((with_reducible refine br_eq (fun hx=>?_) (fun hx=>?_))<;>(try (exfalso;first|omega|contradiction)))|((with_reducible refine br_s (fun hx=>?_) (fun hx=>?_))<;>(try (exfalso;first|omega|contradiction))))|((with_reducible refine ld_id ?_);(apply ld_hs hp;(focus repeat' constructor);exact rfl))|((with_reducible refine ldn_id ?_);(apply ldn_hs hp;(focus repeat' constructor);exact rfl;exact rfl))|((with_reducible refine al_id ?_);(refine al_cel hp ?_;clear hp;intro bb w hp))|((with_reducible refine gen_id ?_);((refine gen_eqa rfl rfl rfl hk (by kernel_rfl) (.inl rfl) ?_)))|((with_reducible refine cl_id ?_);first|((refine cl_eq ((cW hp.chg)) rfl rfl ?_;rintro e w ⟨rfl,hcc⟩;replace hp:=hp.call0 hcc;refine ⟨_,rfl,?_⟩))|((refine cl_eq ((cS hp.chg)) rfl rfl ?_;rintro e w ⟨rfl,hcc⟩;replace hp:=hp.call0 hcc;refine ⟨_,rfl,?_⟩))|((refine cl_eq ((cB hp.chg)) rfl rfl ?_;rintro e w ⟨rfl,hcc⟩;replace hp:=hp.call0 hcc;refine ⟨_,rfl,?_⟩))|((refine cl_eq ((cJ hp.chg)) rfl rfl ?_;rintro e w ⟨rfl,hcc⟩;replace hp:=hp.call0 hcc;refine ⟨_,rfl,?_⟩))))<;>(conv=>whnf)))
   all_goals (try subst qW)
   all_goals first
    |exact ps_val (v':= .bool false) rfl ⟨by simp_all,hp.chg⟩
    |exact ps_val (v':= .bool qJ) rfl ⟨by simp_all,hp.chg⟩
  ·have hP:decide (x.p=y.p)=false:=by
    rw [decide_eq_false_iff_not]
    intro e
    exact h2 ⟨congrArg StaP.ht e,congrArg StaP.halt e,congrArg StaP.next e⟩
   rw [hP]
   have e3:¬((x.ht.toNat:Int)=y.ht.toNat∧x.halt=y.halt∧(x.next.toNat:Int)=y.next.toNat):=fun ⟨a,b,c⟩=>h2 ⟨UInt32.toNat_inj.1 (Int.ofNat.inj a),b,UInt32.toNat_inj.1 (Int.ofNat.inj c)⟩
   refine calls_x (args:= [_,_]) tabOk Tryz.func12 Tryz.ntmps12 Tryz.results12 rfl (Nat.le_of_ble_eq_true rfl) ?_
   ((conv=>whnf);repeat' ((first|((with_reducible refine br_id ?_);first|((with_reducible refine br_1 hn1 ?_))|(with_reducible refine br_t ?_)|(with_reducible refine br_f ?_)|((with_reducible refine br_eq (fun hx=>?_) (fun hx=>?_))<;>(try (exfalso;first|omega|contradiction))))|((with_reducible refine ld_id ?_);(apply ld_hs hp;(focus repeat' constructor);exact rfl))|((with_reducible refine ldn_id ?_);(apply ldn_hs hp;(focus repeat' constructor);exact rfl;exact rfl))|((with_reducible refine al_id ?_);(refine al_cel hp ?_;clear hp;intro bb w hp))|((with_reducible refine gen_id ?_);((refine gen_eqa rfl rfl rfl hk (by kernel_rfl) (.inl rfl) ?_))))<;>(conv=>whnf)))
   all_goals first
    |exact ps_val (v':= .bool false) rfl ⟨rfl,hp.chg⟩
    |(exfalso;omega)
 ·have hP:decide (x.p=y.p)=false:=by rw [decide_eq_false_iff_not];exact fun e=>h1 (congrArg StaP.cfg e)
  rw [hP]
  have hk:EqIs Tryz.prog 23 x.cfg.v y.cfg.v false:=by have:=eq_cfg x.cfg y.cfg;rwa [decide_eq_false h1] at this
  refine calls_x (args:= [_,_]) tabOk Tryz.func12 Tryz.ntmps12 Tryz.results12 rfl (Nat.le_of_ble_eq_true rfl) ?_
  ((conv=>whnf);repeat' ((first|((with_reducible refine br_id ?_);first|((with_reducible refine br_0 hn0 ?_))|(with_reducible refine br_f ?_))|((with_reducible refine ldn_id ?_);(apply ldn_hs hp;(focus repeat' constructor);exact rfl;exact rfl))|((with_reducible refine al_id ?_);(refine al_cel hp ?_;clear hp;intro bb w hp))|((with_reducible refine gen_id ?_);((refine gen_eqa rfl rfl rfl hk (by kernel_rfl) (.inl rfl) ?_))))<;>(conv=>whnf)))
  exact ps_val (v':= .bool false) rfl ⟨rfl,hp.chg⟩
end Go.Proofs.YteabebmlclgakaaGreat
/- Lod: what a loaded book has, as its parts; few states. Of states that are few. -/
namespace Go.Proofs.YteabebmlclgakaaGreat
open Go.RowKit
set_option maxRecDepth 100000
set_option maxHeartbeats 4000000
theorem rightS_at {x:Sta} (h:rightS x=true):soundC x.cfg=true∧haltE x.halt=true∧chS x.cfg.dep x.ht x.win.l=true∧sesS x.next x.cfg.ses x.ses.l=true∧blobS x.ses.l (x.blobs.l.map Blob.p)=true∧jobS x.ht x.jobs.l=true:=by
 unfold rightS at h
 simp only [Bool.and_eq_true] at h
 exact ⟨h.1,h.2.1,h.2.2.1,h.2.2.2.1,h.2.2.2.2.1,h.2.2.2.2.2⟩
theorem lod_chn {x:Sta} {W:Sl Blk} (h:rightS x=true) (hW:W.l.map Blk.p=x.win.l.map Blk.p):ChnI ⟨x.cfg.dep,x.ht,W⟩:=by
 obtain ⟨hq1,_,hch,_⟩:=rightS_at h
 have hWl:W.l.length=x.win.l.length:=by have:=congrArg List.length hW;rwa [List.length_map,List.length_map] at this
 unfold chS at hch
 rw [Bool.and_eq_true,decide_eq_true_eq] at hch
 obtain ⟨⟨d1,d2,hl1,hl2⟩,hall⟩:=hch
 refine ⟨⟨d1,d2⟩,by show (W.l.length:Int)≤_;rw [hWl];exact hl1,by show W.l.length≤_;rw [hWl];exact hl2,fun c hc=>?_⟩
 have h1:c.p∈x.win.l.map Blk.p:=hW▸List.mem_map_of_mem hc
 obtain ⟨c',hc',he⟩:=List.mem_map.1 h1
 have h3:c'.tx.l=c.tx.l:=congrArg BlkP.txs he
 rw [←h3]
 obtain ⟨k,hk⟩:=List.getElem?_of_mem hc'
 exact rightB_nd (winAt_right (allR_at hall (List.getElem?_eq_some_iff.1 hk).1) hk)
theorem lod_tbI {x:Sta} (h:rightS x=true):TbI (tblOf x.ses.l) x.ses.l:=by
 obtain ⟨_,_,_,hs,_⟩:=rightS_at h
 unfold sesS at hs
 rw [Bool.and_eq_true] at hs
 have hall:∀k,k < x.ses.l.length→sesAt x.next x.ses.l k=true:=fun k hk=>allR_at hs.1 hk
 refine ⟨List.pairwise_iff_getElem.2 fun i j hi hj hij=>?_,?_,fun p hp=>?_,fun s hm=>?_⟩
 ·exact asc_all hall i j _ _ hij hj (List.getElem?_eq_getElem hi) (List.getElem?_eq_getElem hj)
 ·unfold tblOf
  rw [List.map_map,show ((fun p:UInt32×Sess=>p.2)∘fun x:Sess=>(x.id,x))=id from rfl,List.map_id]
 ·unfold tblOf at hp
  obtain ⟨y,_,rfl⟩:=List.mem_map.1 hp
  rfl
 ·obtain ⟨k,hk⟩:=List.getElem?_of_mem hm
  have h1:=hall k (List.getElem?_eq_some_iff.1 hk).1
  unfold sesAt at h1
  rw [hk] at h1
  simp only [Bool.and_eq_true,decide_eq_true_eq] at h1
  exact h1.2.2.2.2
theorem lod_ses {x:Sta} (h:rightS x=true):x.ses.l.length≤64:=by
 obtain ⟨hc,_,_,hs,_⟩:=rightS_at h
 unfold sesS at hs
 rw [Bool.and_eq_true,decide_eq_true_eq] at hs
 unfold soundC at hc
 rw [decide_eq_true_eq] at hc
 omega
theorem lod_all {S:Nat→Prop} {w0 w:World} {bk:Nat} {X:Bk} {C:Chn} {Y:Snx} {ms:Nat} {room:Int} {tl:List (UInt32×Sess)} {g:Shf} {mj:Nat} {ord:Sl Key} {l:List (Key×EntB)} {c:Res} (h:Hp S w0 w [star (lodRs bk X C Y ms room tl g mj ord l),c]):
  Hp S w0 w [star (allRs bk X C mj ord l),tabR X.bs ms room tl,star (shRs X.bh g),c]:=by
 have h1:Hp S w0 w [bkR bk X,star (jtRs X.bj mj ord l),star (chlRs X.bc C),tabR X.bs ms room tl,star (shRs X.bh g),c]:=h.unfold.pick [0,5,1,3,4,6] (by decide) rfl
 exact (h1.fold 2).fold 2
theorem lod_state {x:Sta} {X:Bk} {W:Sl Blk} {Y:Snx} {g:Shf} {ord:Sl Key} {l l':List (Key×EntB)} (hL:LodI x X W Y g ord l):(⟨X.cfg,(Chn.mk x.cfg.dep x.ht W).ht,X.halt,X.next,W.l.map Blk.p,x.ses.l,x.blobs.l.map Blob.p,l'.map fun p=>p.2.job.p⟩:StaP)={x.p with jobs:=l'.map fun p=>p.2.job.p}:=by
 rw [hL.cfg,hL.halt,hL.next,hL.win]
 rfl
theorem due_live {ord:List Key} {l:List (Key×EntB)} (hI:JtI ord l) {ht:UInt32} {step:Int} {j:Job} {L:List (Key×EntB)} (hL:L.map (fun p=>p.2.job.p)=sentP ht step (l.map fun p=>p.2.job.p)) (hj:j.p∈L.map (fun p=>p.2.job.p)):j.mined.toNat≠0∨(tierAt j.height.toNat ht.toNat step j.pay.l.length:Int)=j.live:=by
 rw [hL] at hj
 unfold sentP at hj
 obtain ⟨k,hk,hke⟩:=List.mem_map.1 hj
 obtain ⟨p,hp,hpe⟩:=List.mem_map.1 hk
 have hd:=dueP_sent k ht step
 rw [hke] at hd
 have hr:=rightJ_pay (hI.right p hp)
 have h1:=(rightP_at hr).1
 have hlen:j.p.tiers.length=p.2.job.pay.l.length:=by
  rw [←hke,←hpe]
  unfold sentJ
  split<;>exact List.length_map ..
 have hl2:j.p.tiers.length=j.pay.l.length:=List.length_map ..
 unfold dueP at hd
 split at hd
 ·rename_i hc
  rw [hl2] at hc
  rcases hc with hc|hc|hc
  ·exact .inl hc
  ·omega
  ·exact .inr hc
 ·cases hd
end Go.Proofs.YteabebmlclgakaaGreat
