/- MPlanQuiet31: DocR2, DocR3, DocR4, DocR5, DocR, Plan5. -/
import Derived.Test.YteabebmlclgakaaGreatMPlanQuiet30
import Derived.Test.YteabebmlclgakaaGreatMPlanQuiet26
import Derived.Test.YteabebmlclgakaaGreatMPlanQuiet29
set_option linter.unusedSimpArgs false
set_option linter.unusedVariables false
/- DocR2: which chain may be, by the document. Of states that are few. -/
namespace Go.Proofs.YteabebmlclgakaaGreat
open Go.RowKit
set_option maxRecDepth 100000
set_option maxHeartbeats 4000000
theorem rright26_any {B:Nat} {w0:World} (d:Int) (ht:UInt32) {l:Sl Blk} (h:SlAt B w0 Blk.c 65 l) (htx:∀b∈l.l,SlAt B w0 Id.c 32 b.tx) (hn:l.l.length≤10000):Calls Tryz.prog 53 #[.agg #[i64 d,u32 ht,l.v]] w0 fun e w'=>e= .returned (.bool (chS d ht l.l))∧Chg N0 w0 w':=by
 have hp:=Hp.start (S:=N0) w0
 have hB:∀b,N0 b→B≤b:=fun _ hh=>hh.elim
 have us:=Tryz.underlying26
 have hle:=h.le
 have hn1:(if BinOp.neq=BinOp.eql then false else !false)=true:=rfl
 have hn0:(if BinOp.neq=BinOp.eql then true else !true)=false:=rfl
 unfold chS
 by_cases hd:1≤d∧d≤16∧(l.l.length:Int)≤d+1∧l.l.length≤ht.toNat
 ·rw [decide_eq_true hd,Bool.true_and]
  have hht:=ht.toNat_lt
  refine calls_x (args:= [_]) tabOk Tryz.func53 Tryz.ntmps53 Tryz.results53 rfl (Nat.le_of_ble_eq_true rfl) ?_
  ((conv=>whnf);repeat' ((first|((with_reducible refine br_id ?_);first|(with_reducible refine br_f ?_)|((with_reducible refine br_dec (fun hx=>?_) (fun hx=>?_))<;>(try (exfalso;first|omega|contradiction))))|((with_reducible refine ar_id ?_);first|(refine ar_i64 (by omega) ?_)|(refine ar_u64 (by omega) ?_))|((with_reducible refine ld_id ?_);(apply ld_hs hp;(focus repeat' constructor);exact rfl))|((with_reducible refine al_id ?_);(refine al_cel hp ?_;clear hp;intro bb w hp))|((with_reducible refine gen_id ?_);(apply gen_len;exact rfl;exact rfl;assumption)))<;>(conv=>whnf)))
  all_goals first
   |(exfalso;omega)
   |skip
  obtain ⟨b1,hb1⟩:∃x,x=bb:=⟨_,rfl⟩
  subst hb1
  refine lp_inv (α:=Nat) (fun i=> [(1,ptr b1),(3,i64 i)]) (fun i w=>i≤l.l.length∧(∀k,k < i→winAt l.l k=true)∧Hp N0 w0 w [cel b1 104 #[i64 d,u32 ht,l.v]]) (fun i=>l.l.length - i) 0 (by (repeat' (first|exact trivial|(refine ⟨rfl,?_⟩)))) ⟨by omega,fun k hk=>absurd hk (by omega),hp⟩ ?_
  clear hp
  rintro i e0 w ⟨hi,hall,hp⟩
  dsimp only at hi hall hp ⊢
  rcases Nat.lt_or_ge i l.l.length with hlt|hge
  ·obtain ⟨bb,oo,y,hA,hbb,hrow,hyy⟩:=h.has hlt
   have hty:=htx y (List.mem_of_getElem? hyy)
   obtain ⟨q,hq⟩:∃q,rightB y=q:=⟨_,rfl⟩
   have hrt:∀{w:World},Chg N0 w0 w→Calls Tryz.prog 96 #[y.v] w fun e w'=>e= .returned (.bool q)∧Chg N0 w w':=fun hc=>by rw [←hq];exact rightRef_any (hty.keep hc hB)
   obtain ⟨m,hm⟩:∃m,fndBy (fun b:Blk=>decide (b.hash=y.hash)) (l.l.take i)=m:=⟨_,rfl⟩
   have hhs:∀{w:World},Chg N0 w0 w→Calls Tryz.prog 97 #[(l.cut 65 0 i).v,y.hash.v] w fun e w'=>e= .returned (i64 m)∧Chg N0 w w':=fun hc=>by
    have:=rhas26_any ((h.cut (lo:=0) (hi:=i) (by omega) (by omega)).keep hc hB) y.hash
    rw [take_cut,hm] at this
    exact this
   have hmm:0≤m↔y.hash∈(l.l.take i).map (·.hash):=by
    rw [←hm,fndBy_ge,List.mem_map]
    simp only [decide_eq_true_eq]
   have hno:∀{w:World},winAt l.l i=false→Chg N0 w0 w→Ending.returned (.bool false)= .returned (.bool ((List.range l.l.length).all (winAt l.l)))∧Chg N0 w0 w:=fun hn hc=>⟨by rw [show (List.range l.l.length).all (winAt l.l)=false from allR_no hlt hn],hc⟩
   have hyh:(Blk.c y).take 32=Id.c y.hash:=rfl
   have hyp:((Blk.c y).drop 32).take 32=Id.c y.parent:=rfl
   cases q with
   |false=>
    have hwF:winAt l.l i=false:=by unfold winAt;rw [hyy];dsimp only;rw [hq];rfl
    ((conv=>whnf);repeat' ((first|((with_reducible refine br_id ?_);((with_reducible refine br_dec (fun hx=>?_) (fun hx=>?_))<;>(try (exfalso;first|omega|contradiction))))|((with_reducible refine ld_id ?_);(apply ld_hs hp;(focus repeat' constructor);exact rfl))|((with_reducible refine gen_id ?_);(apply gen_len;exact rfl;exact rfl;assumption)))<;>(conv=>whnf)))
    refine dr_autos [] 1000 tabOk (by kernel_rfl) (by decide+kernel) ?_
    replace hp:=hp.drew
    ((conv=>whnf);repeat' ((first|((with_reducible refine br_id ?_);first|(with_reducible refine br_t ?_)|(with_reducible refine br_f ?_)|(with_reducible refine br_not ?_))|((with_reducible refine cn_id ?_);(refine cn ‹_› ?_))|((with_reducible refine ld_id ?_);(apply ld_hs hp;(focus repeat' constructor);exact rfl))|((with_reducible refine ldn_id ?_);((refine ldn_rowx hp hB ‹_› ‹_› _ rfl ‹_› rfl ?_)))|((with_reducible refine cl_id ?_);((refine cl_eq ((hrt hp.chg)) rfl rfl ?_;rintro e w ⟨rfl,hcc⟩;replace hp:=hp.call0 hcc;refine ⟨_,rfl,?_⟩)))|((with_reducible refine rd_id ?_);((refine rd_ixs rfl rfl ‹_› rfl rfl (by omega) ?_))))<;>(conv=>whnf)))
    exact ps_val (v':= .bool false) rfl (hno hwF hp.chg)
   |true=>
    cases i with
    |zero=>
     have hwE:winAt l.l 0=decide (y.hash∉(l.l.take 0).map (·.hash)):=by unfold winAt;rw [hyy];dsimp only;rw [hq];rfl
     have hm0:¬0≤m:=fun h0=>by have:=hmm.1 h0;simp at this
     have hwT:winAt l.l 0=true:=by rw [hwE];simp
     ((conv=>whnf);repeat' ((first|((with_reducible refine br_id ?_);((with_reducible refine br_dec (fun hx=>?_) (fun hx=>?_))<;>(try (exfalso;first|omega|contradiction))))|((with_reducible refine ld_id ?_);(apply ld_hs hp;(focus repeat' constructor);exact rfl))|((with_reducible refine gen_id ?_);(apply gen_len;exact rfl;exact rfl;assumption)))<;>(conv=>whnf)))
     refine dr_autos [] 1000 tabOk (by kernel_rfl) (by decide+kernel) ?_
     replace hp:=hp.drew
     ((conv=>whnf);repeat' ((first|((with_reducible refine br_id ?_);first|(with_reducible refine br_t ?_)|(with_reducible refine br_f ?_)|(with_reducible refine br_not ?_)|((with_reducible refine br_dec (fun hx=>?_) (fun hx=>?_))<;>(try (exfalso;first|omega|contradiction))))|((with_reducible refine ar_id ?_);(refine ar_i64 (by omega) ?_))|((with_reducible refine cn_id ?_);(refine cn ‹_› ?_))|((with_reducible refine ld_id ?_);(apply ld_hs hp;(focus repeat' constructor);exact rfl))|((with_reducible refine ldn_id ?_);first|((refine ldn_row hp hB ‹_› ‹_› _ _ rfl ‹_› (by rfl) (by rfl) ?_))|((refine ldn_rowx hp hB ‹_› ‹_› _ rfl ‹_› rfl ?_)))|((with_reducible refine cl_id ?_);first|((refine cl_eq ((hrt hp.chg)) rfl rfl ?_;rintro e w ⟨rfl,hcc⟩;replace hp:=hp.call0 hcc;refine ⟨_,rfl,?_⟩))|((refine cl_eq ((hhs hp.chg)) rfl rfl ?_;rintro e w ⟨rfl,hcc⟩;replace hp:=hp.call0 hcc;refine ⟨_,rfl,?_⟩)))|((with_reducible refine rd_id ?_);first|((refine rd_ixs rfl rfl ‹_› rfl rfl (by omega) ?_))|((refine rd_cuth rfl el_blkS l rfl hle rfl (h:=0) rfl (by omega) ?_))))<;>(conv=>whnf)))
     all_goals first
      |(exfalso;omega)
      |exact lp_next (0+1) (by show l.l.length - (0+1) < l.l.length - 0;omega) (by (repeat' (first|exact trivial|(refine ⟨rfl,?_⟩)))) ⟨by show 0+1≤_;omega,all_step hall hwT,hp⟩
    |succ k=>
     obtain ⟨z,hz⟩:∃z,l.l[k]? =some z:=⟨_,List.getElem?_eq_getElem (by omega)⟩
     have hzh:(Blk.c z).take 32=Id.c z.hash:=rfl
     have hwE:winAt l.l (k+1)=(decide (y.parent=z.hash) && decide (y.hash∉(l.l.take (k+1)).map (·.hash))):=by unfold winAt;rw [hyy];dsimp only;rw [hq,hz];rfl
     by_cases hpz:y.parent=z.hash
     ·rw [decide_eq_true hpz,Bool.true_and] at hwE
      have he:EqIs Tryz.prog 44 y.parent.v z.hash.v true:=by have:=eq_id y.parent z.hash;rwa [decide_eq_true hpz] at this
      by_cases hmI:y.hash∈(l.l.take (k+1)).map (·.hash)
      ·rw [decide_eq_false (fun hh=>hh hmI)] at hwE
       have hm1:=hmm.2 hmI
       ((conv=>whnf);repeat' ((first|((with_reducible refine br_id ?_);((with_reducible refine br_dec (fun hx=>?_) (fun hx=>?_))<;>(try (exfalso;first|omega|contradiction))))|((with_reducible refine ld_id ?_);(apply ld_hs hp;(focus repeat' constructor);exact rfl))|((with_reducible refine gen_id ?_);(apply gen_len;exact rfl;exact rfl;assumption)))<;>(conv=>whnf)))
       refine dr_autos [] 1000 tabOk (by kernel_rfl) (by decide+kernel) ?_
       replace hp:=hp.drew
       ((conv=>whnf);repeat' ((first|((with_reducible refine br_id ?_);first|((with_reducible refine br_0 hn0 ?_))|(with_reducible refine br_t ?_)|(with_reducible refine br_f ?_)|(with_reducible refine br_not ?_)|((with_reducible refine br_dec (fun hx=>?_) (fun hx=>?_))<;>(try (exfalso;first|omega|contradiction))))|((with_reducible refine ar_id ?_);((refine ar_n (k) (by omega) (by omega) ?_)))|((with_reducible refine cn_id ?_);(refine cn ‹_› ?_))|((with_reducible refine ld_id ?_);(apply ld_hs hp;(focus repeat' constructor);exact rfl))|((with_reducible refine ldn_id ?_);first|((refine ldn_row hp hB ‹_› ‹_› _ _ rfl ‹_› (by rfl) (by rfl) ?_))|((refine ldn_rowx hp hB ‹_› ‹_› _ rfl ‹_› rfl ?_)))|((with_reducible refine cl_id ?_);first|((refine cl_eq ((hrt hp.chg)) rfl rfl ?_;rintro e w ⟨rfl,hcc⟩;replace hp:=hp.call0 hcc;refine ⟨_,rfl,?_⟩))|((refine cl_eq ((hhs hp.chg)) rfl rfl ?_;rintro e w ⟨rfl,hcc⟩;replace hp:=hp.call0 hcc;refine ⟨_,rfl,?_⟩)))|((with_reducible refine rd_id ?_);first|((refine rd_ixs rfl rfl ‹_› rfl rfl (by omega) ?_))|((refine rd_cuth rfl el_blkS l rfl hle rfl (h:=k+1) rfl (by omega) ?_))|((refine rd_eqa rfl rfl rfl he (by kernel_rfl) (.inr rfl) ?_))))<;>(conv=>whnf)))
       all_goals first
        |(exfalso;omega)
        |exact ps_val (v':= .bool false) rfl (hno hwE hp.chg)
      ·rw [decide_eq_true hmI] at hwE
       have hm1:¬0≤m:=fun h0=>hmI (hmm.1 h0)
       ((conv=>whnf);repeat' ((first|((with_reducible refine br_id ?_);((with_reducible refine br_dec (fun hx=>?_) (fun hx=>?_))<;>(try (exfalso;first|omega|contradiction))))|((with_reducible refine ld_id ?_);(apply ld_hs hp;(focus repeat' constructor);exact rfl))|((with_reducible refine gen_id ?_);(apply gen_len;exact rfl;exact rfl;assumption)))<;>(conv=>whnf)))
       refine dr_autos [] 1000 tabOk (by kernel_rfl) (by decide+kernel) ?_
       replace hp:=hp.drew
       ((conv=>whnf);repeat' ((first|((with_reducible refine br_id ?_);first|((with_reducible refine br_0 hn0 ?_))|(with_reducible refine br_t ?_)|(with_reducible refine br_f ?_)|(with_reducible refine br_not ?_)|((with_reducible refine br_dec (fun hx=>?_) (fun hx=>?_))<;>(try (exfalso;first|omega|contradiction))))|((with_reducible refine ar_id ?_);first|((refine ar_n (k) (by omega) (by omega) ?_))|(refine ar_i64 (by omega) ?_))|((with_reducible refine cn_id ?_);(refine cn ‹_› ?_))|((with_reducible refine ld_id ?_);(apply ld_hs hp;(focus repeat' constructor);exact rfl))|((with_reducible refine ldn_id ?_);first|((refine ldn_row hp hB ‹_› ‹_› _ _ rfl ‹_› (by rfl) (by rfl) ?_))|((refine ldn_rowx hp hB ‹_› ‹_› _ rfl ‹_› rfl ?_)))|((with_reducible refine cl_id ?_);first|((refine cl_eq ((hrt hp.chg)) rfl rfl ?_;rintro e w ⟨rfl,hcc⟩;replace hp:=hp.call0 hcc;refine ⟨_,rfl,?_⟩))|((refine cl_eq ((hhs hp.chg)) rfl rfl ?_;rintro e w ⟨rfl,hcc⟩;replace hp:=hp.call0 hcc;refine ⟨_,rfl,?_⟩)))|((with_reducible refine rd_id ?_);first|((refine rd_ixs rfl rfl ‹_› rfl rfl (by omega) ?_))|((refine rd_cuth rfl el_blkS l rfl hle rfl (h:=k+1) rfl (by omega) ?_))|((refine rd_eqa rfl rfl rfl he (by kernel_rfl) (.inr rfl) ?_))))<;>(conv=>whnf)))
       all_goals first
        |(exfalso;omega)
        |exact lp_next (k+1+1) (by show l.l.length - (k+1+1) < l.l.length - (k+1);omega) (by (repeat' (first|exact trivial|(refine ⟨rfl,?_⟩)))) ⟨by show k+1+1≤_;omega,all_step hall hwE,hp⟩
     ·rw [decide_eq_false hpz,Bool.false_and] at hwE
      have he:EqIs Tryz.prog 44 y.parent.v z.hash.v false:=by have:=eq_id y.parent z.hash;rwa [decide_eq_false hpz] at this
      ((conv=>whnf);repeat' ((first|((with_reducible refine br_id ?_);((with_reducible refine br_dec (fun hx=>?_) (fun hx=>?_))<;>(try (exfalso;first|omega|contradiction))))|((with_reducible refine ld_id ?_);(apply ld_hs hp;(focus repeat' constructor);exact rfl))|((with_reducible refine gen_id ?_);(apply gen_len;exact rfl;exact rfl;assumption)))<;>(conv=>whnf)))
      refine dr_autos [] 1000 tabOk (by kernel_rfl) (by decide+kernel) ?_
      replace hp:=hp.drew
      ((conv=>whnf);repeat' ((first|((with_reducible refine br_id ?_);first|((with_reducible refine br_1 hn1 ?_))|(with_reducible refine br_t ?_)|(with_reducible refine br_f ?_)|(with_reducible refine br_not ?_)|((with_reducible refine br_dec (fun hx=>?_) (fun hx=>?_))<;>(try (exfalso;first|omega|contradiction))))|((with_reducible refine ar_id ?_);((refine ar_n (k) (by omega) (by omega) ?_)))|((with_reducible refine cn_id ?_);(refine cn ‹_› ?_))|((with_reducible refine ld_id ?_);(apply ld_hs hp;(focus repeat' constructor);exact rfl))|((with_reducible refine ldn_id ?_);first|((refine ldn_row hp hB ‹_› ‹_› _ _ rfl ‹_› (by rfl) (by rfl) ?_))|((refine ldn_rowx hp hB ‹_› ‹_› _ rfl ‹_› rfl ?_)))|((with_reducible refine cl_id ?_);((refine cl_eq ((hrt hp.chg)) rfl rfl ?_;rintro e w ⟨rfl,hcc⟩;replace hp:=hp.call0 hcc;refine ⟨_,rfl,?_⟩)))|((with_reducible refine rd_id ?_);first|((refine rd_ixs rfl rfl ‹_› rfl rfl (by omega) ?_))|((refine rd_eqa rfl rfl rfl he (by kernel_rfl) (.inr rfl) ?_))))<;>(conv=>whnf)))
      all_goals first
       |(exfalso;omega)
       |exact ps_val (v':= .bool false) rfl (hno hwE hp.chg)
  ·((conv=>whnf);repeat' ((first|((with_reducible refine br_id ?_);((with_reducible refine br_dec (fun hx=>?_) (fun hx=>?_))<;>(try (exfalso;first|omega|contradiction))))|((with_reducible refine ld_id ?_);(apply ld_hs hp;(focus repeat' constructor);exact rfl))|((with_reducible refine gen_id ?_);(apply gen_len;exact rfl;exact rfl;assumption)))<;>(conv=>whnf)))
   exact ps_val (v':= .bool true) rfl ⟨by rw [show (List.range l.l.length).all (winAt l.l)=true from allR_yes fun k hk=>hall k (by omega)],hp.chg⟩
 ·rw [decide_eq_false hd,Bool.false_and]
  have hht:=ht.toNat_lt
  refine calls_x (args:= [_]) tabOk Tryz.func53 Tryz.ntmps53 Tryz.results53 rfl (Nat.le_of_ble_eq_true rfl) ?_
  ((conv=>whnf);repeat' ((first|((with_reducible refine br_id ?_);first|(with_reducible refine br_t ?_)|(with_reducible refine br_f ?_)|((with_reducible refine br_dec (fun hx=>?_) (fun hx=>?_))<;>(try (exfalso;first|omega|contradiction))))|((with_reducible refine ar_id ?_);first|(refine ar_i64 (by omega) ?_)|(refine ar_u64 (by omega) ?_))|((with_reducible refine ld_id ?_);(apply ld_hs hp;(focus repeat' constructor);exact rfl))|((with_reducible refine al_id ?_);(refine al_cel hp ?_;clear hp;intro bb w hp))|((with_reducible refine gen_id ?_);(apply gen_len;exact rfl;exact rfl;assumption)))<;>(conv=>whnf)))
  all_goals first
   |(exfalso;omega)
   |exact ps_val (v':= .bool false) rfl ⟨rfl,hp.chg⟩
end Go.Proofs.YteabebmlclgakaaGreat
/- DocR3: which sessions may be, by the document. Of states that are few. -/
namespace Go.Proofs.YteabebmlclgakaaGreat
open Go.RowKit
set_option maxRecDepth 100000
set_option maxHeartbeats 4000000
theorem rses31_any {B:Nat} {w0:World} {x:Sta} (hs:StaAt B w0 x) (hf:FewI x):Calls Tryz.prog 55 #[x.v] w0 fun e w'=>e= .returned (.bool (sesS x.next x.cfg.ses x.ses.l))∧Chg N0 w0 w':=by
 have hp:=Hp.start (S:=N0) w0
 have hB:∀b,N0 b→B≤b:=fun _ hh=>hh.elim
 have u1:=Tryz.underlying27
 have f1:=hf.ses
 unfold sesS
 refine calls_x (args:= [_]) tabOk Tryz.func55 Tryz.ntmps55 Tryz.results55 rfl (Nat.le_of_ble_eq_true rfl) ?_
 ((conv=>whnf);repeat' (((with_reducible refine al_id ?_);(refine al_cel hp ?_;clear hp;intro bb w hp))<;>(conv=>whnf)))
 obtain ⟨b1,hb1⟩:∃x,x=bb:=⟨_,rfl⟩
 subst hb1
 refine lp_inv (α:=Nat) (fun i=> [(1,ptr b1),(3,i64 i)]) (fun i w=>i≤x.ses.l.length∧(∀k,k < i→sesAt x.next x.ses.l k=true)∧Hp N0 w0 w [cel b1 31 x.c.toArray]) (fun i=>x.ses.l.length - i) 0 (by (repeat' (first|exact trivial|(refine ⟨rfl,?_⟩)))) ⟨by omega,fun k hk=>absurd hk (by omega),hp⟩ ?_
 clear hp
 rintro i e0 w ⟨hi,hall,hp⟩
 dsimp only at hi hall hp ⊢
 rcases Nat.lt_or_ge i x.ses.l.length with hlt|hge
 ·obtain ⟨b,o,y,hA,hbb,hrow,hyy⟩:=hs.ses.has hlt
  have hno:∀{w:World},sesAt x.next x.ses.l i=false→Chg N0 w0 w→Ending.returned (.bool false)= .returned (.bool ((List.range x.ses.l.length).all (sesAt x.next x.ses.l) && decide ((x.ses.l.length:Int)≤x.cfg.ses)))∧Chg N0 w0 w:=fun hn hc=>⟨by rw [show (List.range x.ses.l.length).all (sesAt x.next x.ses.l)=false from allR_no hlt hn,Bool.false_and],hc⟩
  cases i with
  |zero=>
   have hE:sesAt x.next x.ses.l 0=(decide (y.id.toNat < x.next.toNat) && (true && decide (1≤y.quota.toNat∧y.quota.toNat≤64∧y.used.toNat≤y.quota.toNat))):=by unfold sesAt;rw [hyy];rfl
   rw [Bool.true_and] at hE
   ((conv=>whnf);repeat' ((first|((with_reducible refine br_id ?_);first|(with_reducible refine br_t ?_)|(with_reducible refine br_f ?_)|((with_reducible refine br_dec (fun hx=>?_) (fun hx=>?_))<;>(try (exfalso;first|omega|contradiction))))|((with_reducible refine ar_id ?_);(refine ar_i64 (by omega) ?_))|((with_reducible refine cn_id ?_);(refine cn rfl ?_))|((with_reducible refine ld_id ?_);(apply ld_hs hp;(focus repeat' constructor);exact rfl))|((with_reducible refine ldn_id ?_);((refine ldn_rowx hp hB ‹_› ‹_› _ rfl ‹_› rfl ?_)))|((with_reducible refine al_id ?_);(refine al_cel hp ?_;clear hp;intro bb w hp))|((with_reducible refine st_id ?_);(apply sta_hs hp;(focus repeat' constructor);exact rfl;exact rfl;clear hp;intro w hp;(try dsimp only [List.set] at hp)))|((with_reducible refine gen_id ?_);first|((refine gen_ixs rfl rfl ‹_› rfl rfl (by omega) ?_))|(apply gen_len;exact rfl;exact rfl;assumption))|((with_reducible refine dr_id ?_);(refine dr_auto tabOk (by kernel_rfl) (by decide+kernel) ?_;(try replace hp:=hp.drew))))<;>(conv=>whnf)))
   all_goals first
    |(refine ps_val (v':= .bool false) rfl (hno ?_ hp.chg)
      rw [hE,Bool.and_eq_false_iff,decide_eq_false_iff_not,decide_eq_false_iff_not]
      omega)
    |(refine lp_next (0+1) (by show x.ses.l.length - (0+1) < x.ses.l.length - 0;omega) (by (repeat' (first|exact trivial|(refine ⟨rfl,?_⟩)))) ⟨by show 0+1≤_;omega,all_step hall ?_,hp.tail⟩
      rw [hE,Bool.and_eq_true,decide_eq_true_eq,decide_eq_true_eq]
      omega)
  |succ k=>
   obtain ⟨z,hz⟩:∃z,x.ses.l[k]? =some z:=⟨_,List.getElem?_eq_getElem (by omega)⟩
   have hE:sesAt x.next x.ses.l (k+1)=(decide (y.id.toNat < x.next.toNat) && (decide (z.id.toNat < y.id.toNat) && decide (1≤y.quota.toNat∧y.quota.toNat≤64∧y.used.toNat≤y.quota.toNat))):=by unfold sesAt ascAt;rw [hyy];dsimp only;rw [hz]
   ((conv=>whnf);repeat' ((first|((with_reducible refine br_id ?_);first|(with_reducible refine br_t ?_)|(with_reducible refine br_f ?_)|((with_reducible refine br_dec (fun hx=>?_) (fun hx=>?_))<;>(try (exfalso;first|omega|contradiction))))|((with_reducible refine ar_id ?_);first|((refine ar_n (k) (by omega) (by omega) ?_))|(refine ar_i64 (by omega) ?_))|((with_reducible refine cn_id ?_);(refine cn rfl ?_))|((with_reducible refine ld_id ?_);first|((refine ld_row hp hB ‹_› ‹_› _ _ rfl ‹_› (by rfl) ?_))|(apply ld_hs hp;(focus repeat' constructor);exact rfl))|((with_reducible refine ldn_id ?_);((refine ldn_rowx hp hB ‹_› ‹_› _ rfl ‹_› rfl ?_)))|((with_reducible refine al_id ?_);(refine al_cel hp ?_;clear hp;intro bb w hp))|((with_reducible refine st_id ?_);(apply sta_hs hp;(focus repeat' constructor);exact rfl;exact rfl;clear hp;intro w hp;(try dsimp only [List.set] at hp)))|((with_reducible refine gen_id ?_);first|((refine gen_ixs rfl rfl ‹_› rfl rfl (by omega) ?_))|(apply gen_len;exact rfl;exact rfl;assumption))|((with_reducible refine dr_id ?_);(refine dr_auto tabOk (by kernel_rfl) (by decide+kernel) ?_;(try replace hp:=hp.drew)))|((with_reducible refine rd_id ?_);((refine rd_ixs rfl rfl ‹_› rfl rfl (by omega) ?_))))<;>(conv=>whnf)))
   all_goals first
    |(refine ps_val (v':= .bool false) rfl (hno ?_ hp.chg)
      rw [hE,Bool.and_eq_false_iff,Bool.and_eq_false_iff,decide_eq_false_iff_not,decide_eq_false_iff_not,decide_eq_false_iff_not]
      omega)
    |(refine lp_next (k+1+1) (by show x.ses.l.length - (k+1+1) < x.ses.l.length - (k+1);omega) (by (repeat' (first|exact trivial|(refine ⟨rfl,?_⟩)))) ⟨by show k+1+1≤_;omega,all_step hall ?_,hp.tail⟩
      rw [hE,Bool.and_eq_true,Bool.and_eq_true,decide_eq_true_eq,decide_eq_true_eq,decide_eq_true_eq]
      omega)
 ·rw [show (List.range x.ses.l.length).all (sesAt x.next x.ses.l)=true from allR_yes fun k hk=>hall k (by omega),Bool.true_and]
  ((conv=>whnf);repeat' ((first|((with_reducible refine br_id ?_);((with_reducible refine br_dec (fun hx=>?_) (fun hx=>?_))<;>(try (exfalso;first|omega|contradiction))))|((with_reducible refine ld_id ?_);(apply ld_hs hp;(focus repeat' constructor);exact rfl))|((with_reducible refine gen_id ?_);(apply gen_len;exact rfl;exact rfl;assumption)))<;>(conv=>whnf)))
  exact ps_val (v':= .bool (decide ((x.ses.l.length:Int)≤x.cfg.ses))) rfl ⟨rfl,hp.chg⟩
end Go.Proofs.YteabebmlclgakaaGreat
/- DocR4: which blobs may be, by the document. Of states that are few. -/
namespace Go.Proofs.YteabebmlclgakaaGreat
open Go.RowKit
set_option maxRecDepth 100000
set_option maxHeartbeats 4000000
theorem rblobs31_any {B:Nat} {w0:World} {x:Sta} (hs:StaAt B w0 x) (hf:FewI x):Calls Tryz.prog 56 #[x.v] w0 fun e w'=>e= .returned (.bool (blobS x.ses.l (x.blobs.l.map Blob.p)))∧Chg N0 w0 w':=by
 have hp:=Hp.start (S:=N0) w0
 have hB:∀b,N0 b→B≤b:=fun _ hh=>hh.elim
 have u1:=Tryz.underlying27
 have u2:=Tryz.underlying28
 have u5:=Tryz.underlying38
 have f1:=hf.ses
 have f2:=hf.blobs
 have hle:=hs.blobs.row.le
 refine calls_x (args:= [_]) tabOk Tryz.func56 Tryz.ntmps56 Tryz.results56 rfl (Nat.le_of_ble_eq_true rfl) ?_
 ((conv=>whnf);repeat' (((with_reducible refine al_id ?_);(refine al_cel hp ?_;clear hp;intro bb w hp))<;>(conv=>whnf)))
 obtain ⟨b1,hb1⟩:∃x,x=bb:=⟨_,rfl⟩
 subst hb1
 refine lp_inv (α:=Nat) (fun i=> [(1,ptr b1),(3,i64 i)]) (fun i w=>i≤x.blobs.l.length∧(∀k,k < i→blobAt x.ses.l (x.blobs.l.map Blob.p) k=true)∧Hp N0 w0 w [cel b1 31 x.c.toArray]) (fun i=>x.blobs.l.length - i) 0 (by (repeat' (first|exact trivial|(refine ⟨rfl,?_⟩)))) ⟨by omega,fun k hk=>absurd hk (by omega),hp⟩ ?_
 clear hp
 rintro i e0 w ⟨hi,hall,hp⟩
 dsimp only at hi hall hp ⊢
 rcases Nat.lt_or_ge i x.blobs.l.length with hlt|hge
 ·obtain ⟨b,o,y,hA,hbb,hrow,hyy⟩:=hs.blobs.row.has hlt
  have hmem:=List.mem_of_getElem? hyy
  have hyd:=hf.data y hmem
  have hyp:(x.blobs.l.map Blob.p)[i]? =some y.p:=by rw [List.getElem?_map,hyy];rfl
  have hba:blobAt x.ses.l (x.blobs.l.map Blob.p) i=(useOk y.key.seq (byId x.ses.l y.key.ses) && decide (addE ((x.blobs.l.map Blob.p).take i) y.p=0)):=by unfold blobAt;rw [hyp];rfl
  have hno:∀{w:World},blobAt x.ses.l (x.blobs.l.map Blob.p) i=false→Chg N0 w0 w→Ending.returned (.bool false)= .returned (.bool (blobS x.ses.l (x.blobs.l.map Blob.p)))∧Chg N0 w0 w:=fun hn hc=>⟨by rw [show blobS x.ses.l (x.blobs.l.map Blob.p)=false from allR_no (by rw [List.length_map];exact hlt) hn],hc⟩
  obtain ⟨m,hm⟩:∃m,fndV (x.blobs.l.take i) y.key=m:=⟨_,rfl⟩
  have hfb:∀{w:World},Chg N0 w0 w→Calls Tryz.prog 99 #[(x.blobs.cut 19 0 i).v,y.key.v] w fun e w'=>e= .returned (i64 m)∧Chg N0 w w':=fun hc=>by
   have:=rfind25_any ((hs.blobs.row.cut (lo:=0) (hi:=i) (by omega) (by omega)).keep hc hB) y.key
   rw [take_cut,hm] at this
   exact this
  have hmm:0≤m↔y.p.key∈((x.blobs.l.map Blob.p).take i).map (·.key):=by
   rw [←hm,←List.map_take]
   have:=fnd_mem (x.blobs.l.take i) y.key
   unfold fndV
   cases hk:fndK (x.blobs.l.take i) y.key with
   |none=>
    rw [hk] at this
    have h2:=of_decide_eq_false this.symm
    exact ⟨fun h=>by dsimp only at h;omega,fun h=>(h2 h).elim⟩
   |some j=>
    rw [hk] at this
    have h2:=of_decide_eq_true this.symm
    exact ⟨fun _=>h2,fun _=>Int.natCast_nonneg _⟩
  have hE:∀{b:Bool},decide (addE ((x.blobs.l.map Blob.p).take i) y.p=0)=b→b=decide (y.data.l.length≤600∧¬0≤m):=fun {b} hb=>by
   rw [←hb]
   unfold addE
   by_cases h6:600 < y.p.bytes.length
   ·have h6':600 < y.data.l.length:=h6
    rw [if_pos h6,decide_eq_false (by omega),decide_eq_false (by omega)]
   ·have h6':¬600 < y.data.l.length:=h6
    rw [if_neg h6]
    by_cases hk:y.p.key∈((x.blobs.l.map Blob.p).take i).map (·.key)
    ·rw [if_pos hk,decide_eq_false (by omega),decide_eq_false (fun hh=>hh.2 (hmm.2 hk))]
    ·rw [if_neg hk,decide_eq_true (by omega),decide_eq_true ⟨by omega,fun hh=>hk (hmm.1 hh)⟩]
  have hba:=hba.trans (congrArg (useOk y.key.seq (byId x.ses.l y.key.ses) && ·) (hE rfl))
  have hsn:∀{w:World},Chg N0 w0 w→Calls Tryz.prog 98 #[x.ses.v,u32 y.key.ses] w fun e w'=>e= .returned (i64 (fndI x.ses.l y.key.ses))∧Chg N0 w w':=fun hc=>rfind23_any (hs.ses.keep hc hB) y.key.ses (by omega)
  rcases fnd_cases x.ses.l y.key.ses with ⟨n,z,hz,hzi,hzn,hby,hfi⟩|⟨_,hby,hfi⟩
  ·have hzl:=(List.getElem?_eq_some_iff.1 hz).1
   obtain ⟨bz,oz,z',hAz,hbz,hroz,hz'⟩:=hs.ses.has hzl
   obtain rfl:z'=z:=Option.some.inj (hz'.symm.trans hz)
   rw [hby] at hba
   rw [hfi] at hsn
   have hba:blobAt x.ses.l (x.blobs.l.map Blob.p) i=(decide (y.key.seq.toNat < z'.used.toNat) && decide (y.data.l.length≤600∧¬0≤m)):=hba
   ((conv=>whnf);repeat' ((first|((with_reducible refine br_id ?_);((with_reducible refine br_dec (fun hx=>?_) (fun hx=>?_))<;>(try (exfalso;first|omega|contradiction))))|((with_reducible refine cn_id ?_);(refine cn rfl ?_))|((with_reducible refine ld_id ?_);(apply ld_hs hp;(focus repeat' constructor);exact rfl))|((with_reducible refine ldn_id ?_);((refine ldn_rowx hp hB ‹_› ‹_› _ rfl ‹_› rfl ?_)))|((with_reducible refine al_id ?_);(refine al_cel hp ?_;clear hp;intro bb w hp))|((with_reducible refine st_id ?_);(apply sta_hs hp;(focus repeat' constructor);exact rfl;exact rfl;clear hp;intro w hp;(try dsimp only [List.set] at hp)))|((with_reducible refine gen_id ?_);first|((refine gen_ixs rfl rfl ‹_› rfl rfl (by omega) ?_))|(apply gen_len;exact rfl;exact rfl;assumption))|((with_reducible refine cl_id ?_);((refine cl_eq ((hsn hp.chg)) rfl rfl ?_;rintro e w ⟨rfl,hcc⟩;replace hp:=hp.call0 hcc;refine ⟨_,rfl,?_⟩))))<;>(conv=>whnf)))
   refine dr_autos [] 1000 tabOk (by kernel_rfl) (by decide+kernel) ?_
   replace hp:=hp.drew
   ((conv=>whnf);repeat' ((first|((with_reducible refine br_id ?_);first|(with_reducible refine br_t ?_)|(with_reducible refine br_f ?_)|((with_reducible refine br_dec (fun hx=>?_) (fun hx=>?_))<;>(try (exfalso;first|omega|contradiction))))|((with_reducible refine ar_id ?_);(refine ar_i64 (by omega) ?_))|((with_reducible refine cn_id ?_);(refine cn ‹_› ?_))|((with_reducible refine ld_id ?_);first|((refine ld_row hp hB ‹_› ‹_› _ _ rfl ‹_› (by rfl) ?_))|(apply ld_hs hp;(focus repeat' constructor);exact rfl))|((with_reducible refine gen_id ?_);(apply gen_build;exact rfl;exact rfl))|((with_reducible refine cl_id ?_);((refine cl_eq ((hfb hp.chg)) rfl rfl ?_;rintro e w ⟨rfl,hcc⟩;replace hp:=hp.call0 hcc;refine ⟨_,rfl,?_⟩)))|((with_reducible refine rd_id ?_);first|((refine rd_ixs rfl rfl ‹_› rfl rfl (by omega) ?_))|((refine rd_cuth rfl el_blob x.blobs rfl hle rfl (h:=i) rfl (by omega) ?_))|(apply rd_len;exact rfl;exact rfl;assumption)))<;>(conv=>whnf)))
   all_goals first
    |(refine ps_val (v':= .bool false) rfl (hno ?_ hp.chg)
      rw [hba,Bool.and_eq_false_iff,decide_eq_false_iff_not,decide_eq_false_iff_not]
      omega)
    |(refine lp_next (i+1) (by show x.blobs.l.length - (i+1) < x.blobs.l.length - i;omega) (by (repeat' (first|exact trivial|(refine ⟨rfl,?_⟩)))) ⟨by show i+1≤_;omega,all_step hall ?_,hp.tail⟩
      rw [hba,Bool.and_eq_true,decide_eq_true_eq,decide_eq_true_eq]
      omega)
  ·rw [hby] at hba
   rw [hfi] at hsn
   have hba:blobAt x.ses.l (x.blobs.l.map Blob.p) i=false:=hba
   ((conv=>whnf);repeat' ((first|((with_reducible refine br_id ?_);((with_reducible refine br_dec (fun hx=>?_) (fun hx=>?_))<;>(try (exfalso;first|omega|contradiction))))|((with_reducible refine cn_id ?_);(refine cn rfl ?_))|((with_reducible refine ld_id ?_);(apply ld_hs hp;(focus repeat' constructor);exact rfl))|((with_reducible refine ldn_id ?_);((refine ldn_rowx hp hB ‹_› ‹_› _ rfl ‹_› rfl ?_)))|((with_reducible refine al_id ?_);(refine al_cel hp ?_;clear hp;intro bb w hp))|((with_reducible refine st_id ?_);(apply sta_hs hp;(focus repeat' constructor);exact rfl;exact rfl;clear hp;intro w hp;(try dsimp only [List.set] at hp)))|((with_reducible refine gen_id ?_);first|((refine gen_ixs rfl rfl ‹_› rfl rfl (by omega) ?_))|(apply gen_len;exact rfl;exact rfl;assumption))|((with_reducible refine cl_id ?_);((refine cl_eq ((hsn hp.chg)) rfl rfl ?_;rintro e w ⟨rfl,hcc⟩;replace hp:=hp.call0 hcc;refine ⟨_,rfl,?_⟩))))<;>(conv=>whnf)))
   refine dr_autos [] 1000 tabOk (by kernel_rfl) (by decide+kernel) ?_
   replace hp:=hp.drew
   ((conv=>whnf);repeat' (((with_reducible refine br_id ?_);first|(with_reducible refine br_t ?_)|((with_reducible refine br_dec (fun hx=>?_) (fun hx=>?_))<;>(try (exfalso;first|omega|contradiction))))<;>(conv=>whnf)))
   all_goals exact ps_val (v':= .bool false) rfl (hno hba hp.chg)
 ·((conv=>whnf);repeat' ((first|((with_reducible refine br_id ?_);((with_reducible refine br_dec (fun hx=>?_) (fun hx=>?_))<;>(try (exfalso;first|omega|contradiction))))|((with_reducible refine ld_id ?_);(apply ld_hs hp;(focus repeat' constructor);exact rfl))|((with_reducible refine gen_id ?_);(apply gen_len;exact rfl;exact rfl;assumption)))<;>(conv=>whnf)))
  exact ps_val (v':= .bool true) rfl ⟨by rw [show blobS x.ses.l (x.blobs.l.map Blob.p)=true from allR_yes fun k hk=>hall k (by rw [List.length_map] at hk;omega)],hp.chg⟩
end Go.Proofs.YteabebmlclgakaaGreat
/- DocR5: which jobs may be, by the document. Of states that are few. -/
namespace Go.Proofs.YteabebmlclgakaaGreat
open Go.RowKit
set_option maxRecDepth 100000
set_option maxHeartbeats 4000000
theorem rbre31_any {B:Nat} {w0:World} {x:Sta} (hs:StaAt B w0 x) (hf:FewI x) (hlv:∀j∈x.jobs.l, -9223372036854775808≤j.live∧j.live≤9223372036854775807):Calls Tryz.prog 57 #[x.v] w0 fun e w'=>e= .returned (.bool (jobS x.ht x.jobs.l))∧Chg N0 w0 w':=by
 have hp:=Hp.start (S:=N0) w0
 have hB:∀b,N0 b→B≤b:=fun _ hh=>hh.elim
 have u4:=Tryz.underlying29
 have f4:=hf.jobs
 have hle:=hs.jobs.le
 refine calls_x (args:= [_]) tabOk Tryz.func57 Tryz.ntmps57 Tryz.results57 rfl (Nat.le_of_ble_eq_true rfl) ?_
 ((conv=>whnf);repeat' (((with_reducible refine al_id ?_);(refine al_cel hp ?_;clear hp;intro bb w hp))<;>(conv=>whnf)))
 obtain ⟨b1,hb1⟩:∃x,x=bb:=⟨_,rfl⟩
 subst hb1
 refine lp_inv (α:=Nat) (fun i=> [(1,ptr b1),(3,i64 i)]) (fun i w=>i≤x.jobs.l.length∧(∀k,k < i→jobAt x.ht x.jobs.l k=true)∧Hp N0 w0 w [cel b1 31 x.c.toArray]) (fun i=>x.jobs.l.length - i) 0 (by (repeat' (first|exact trivial|(refine ⟨rfl,?_⟩)))) ⟨by omega,fun k hk=>absurd hk (by omega),hp⟩ ?_
 clear hp
 rintro i e0 w ⟨hi,hall,hp⟩
 dsimp only at hi hall hp ⊢
 rcases Nat.lt_or_ge i x.jobs.l.length with hlt|hge
 ·obtain ⟨b,o,y,hA,hbb,hrow,hyy⟩:=hs.jobs.has hlt
  have hmem:=List.mem_of_getElem? hyy
  have hno:∀{w:World},jobAt x.ht x.jobs.l i=false→Chg N0 w0 w→Ending.returned (.bool false)= .returned (.bool (jobS x.ht x.jobs.l))∧Chg N0 w0 w:=fun hn hc=>⟨by rw [show jobS x.ht x.jobs.l=false from allR_no hlt hn],hc⟩
  obtain ⟨q,hq⟩:∃q,rightJ y=q:=⟨_,rfl⟩
  have hrt:∀{w:World},Chg N0 w0 w→Calls Tryz.prog 100 #[y.v] w fun e w'=>e= .returned (.bool q)∧Chg N0 w w':=fun hc=>by rw [←hq];exact rjright29_any ((hs.pay y hmem).keep hc hB) (hlv y hmem)
  obtain ⟨m,hm⟩:∃m,fndBy (fun j:Job=>decide (j.key=y.key)) (x.jobs.l.take i)=m:=⟨_,rfl⟩
  have hfd:∀{w:World},Chg N0 w0 w→Calls Tryz.prog 101 #[(x.jobs.cut 38 0 i).v,y.key.v] w fun e w'=>e= .returned (i64 m)∧Chg N0 w w':=fun hc=>by
   have:=rjfind29_any ((hs.jobs.cut (lo:=0) (hi:=i) (by omega) (by omega)).keep hc hB) y.key
   rw [take_cut,hm] at this
   exact this
  have hmm:0≤m↔y.key∈(x.jobs.l.take i).map (·.key):=by
   rw [←hm,fndBy_ge,List.mem_map]
   simp only [decide_eq_true_eq]
  have hja:jobAt x.ht x.jobs.l i=(q && decide ((y.height.toNat≤x.ht.toNat∧y.mined.toNat≤x.ht.toNat)∧¬0≤m)):=by
   unfold jobAt
   rw [hyy]
   dsimp only
   rw [hq]
   refine congrArg (q && ·) (decide_eq_decide.2 ?_)
   rw [hmm]
  cases q with
  |false=>
   rw [Bool.false_and] at hja
   ((conv=>whnf);repeat' ((first|((with_reducible refine br_id ?_);((with_reducible refine br_dec (fun hx=>?_) (fun hx=>?_))<;>(try (exfalso;first|omega|contradiction))))|((with_reducible refine cn_id ?_);(refine cn rfl ?_))|((with_reducible refine ld_id ?_);(apply ld_hs hp;(focus repeat' constructor);exact rfl))|((with_reducible refine ldn_id ?_);((refine ldn_rowx hp hB ‹_› ‹_› _ rfl ‹_› rfl ?_)))|((with_reducible refine al_id ?_);(refine al_cel hp ?_;clear hp;intro bb w hp))|((with_reducible refine st_id ?_);(apply sta_hs hp;(focus repeat' constructor);exact rfl;exact rfl;clear hp;intro w hp;(try dsimp only [List.set] at hp)))|((with_reducible refine gen_id ?_);first|((refine gen_ixs rfl rfl ‹_› rfl rfl (by omega) ?_))|(apply gen_len;exact rfl;exact rfl;assumption)))<;>(conv=>whnf)))
   refine dr_autos [] 1000 tabOk (by kernel_rfl) (by decide+kernel) ?_
   replace hp:=hp.drew
   ((conv=>whnf);repeat' ((first|((with_reducible refine br_id ?_);first|(with_reducible refine br_t ?_)|(with_reducible refine br_f ?_)|(with_reducible refine br_not ?_))|((with_reducible refine cn_id ?_);(refine cn ‹_› ?_))|((with_reducible refine ldn_id ?_);(apply lda_hs hp;(focus repeat' constructor);exact rfl))|((with_reducible refine cl_id ?_);((refine cl_eq ((hrt hp.chg)) rfl rfl ?_;rintro e w ⟨rfl,hcc⟩;replace hp:=hp.call0 hcc;refine ⟨_,rfl,?_⟩))))<;>(conv=>whnf)))
   all_goals exact ps_val (v':= .bool false) rfl (hno hja hp.chg)
  |true=>
   rw [Bool.true_and] at hja
   ((conv=>whnf);repeat' ((first|((with_reducible refine br_id ?_);((with_reducible refine br_dec (fun hx=>?_) (fun hx=>?_))<;>(try (exfalso;first|omega|contradiction))))|((with_reducible refine cn_id ?_);(refine cn rfl ?_))|((with_reducible refine ld_id ?_);(apply ld_hs hp;(focus repeat' constructor);exact rfl))|((with_reducible refine ldn_id ?_);((refine ldn_rowx hp hB ‹_› ‹_› _ rfl ‹_› rfl ?_)))|((with_reducible refine al_id ?_);(refine al_cel hp ?_;clear hp;intro bb w hp))|((with_reducible refine st_id ?_);(apply sta_hs hp;(focus repeat' constructor);exact rfl;exact rfl;clear hp;intro w hp;(try dsimp only [List.set] at hp)))|((with_reducible refine gen_id ?_);first|((refine gen_ixs rfl rfl ‹_› rfl rfl (by omega) ?_))|(apply gen_len;exact rfl;exact rfl;assumption)))<;>(conv=>whnf)))
   refine dr_autos [] 1000 tabOk (by kernel_rfl) (by decide+kernel) ?_
   replace hp:=hp.drew
   ((conv=>whnf);repeat' ((first|((with_reducible refine br_id ?_);first|(with_reducible refine br_t ?_)|(with_reducible refine br_f ?_)|(with_reducible refine br_not ?_)|((with_reducible refine br_dec (fun hx=>?_) (fun hx=>?_))<;>(try (exfalso;first|omega|contradiction))))|((with_reducible refine ar_id ?_);(refine ar_i64 (by omega) ?_))|((with_reducible refine cn_id ?_);(refine cn ‹_› ?_))|((with_reducible refine ld_id ?_);(apply ld_hs hp;(focus repeat' constructor);exact rfl))|((with_reducible refine ldn_id ?_);first|(apply lda_hs hp;(focus repeat' constructor);exact rfl)|(apply ldn_hs hp;(focus repeat' constructor);exact rfl;exact rfl))|((with_reducible refine cl_id ?_);first|((refine cl_eq ((hrt hp.chg)) rfl rfl ?_;rintro e w ⟨rfl,hcc⟩;replace hp:=hp.call0 hcc;refine ⟨_,rfl,?_⟩))|((refine cl_eq ((hfd hp.chg)) rfl rfl ?_;rintro e w ⟨rfl,hcc⟩;replace hp:=hp.call0 hcc;refine ⟨_,rfl,?_⟩)))|((with_reducible refine rd_id ?_);((refine rd_cuth rfl el_job x.jobs rfl hle rfl (h:=i) rfl (by omega) ?_))))<;>(conv=>whnf)))
   all_goals first
    |(refine ps_val (v':= .bool false) rfl (hno ?_ hp.chg)
      rw [hja,decide_eq_false_iff_not]
      omega)
    |(refine lp_next (i+1) (by show x.jobs.l.length - (i+1) < x.jobs.l.length - i;omega) (by (repeat' (first|exact trivial|(refine ⟨rfl,?_⟩)))) ⟨by show i+1≤_;omega,all_step hall ?_,hp.tail⟩
      rw [hja,decide_eq_true_eq]
      omega)
 ·((conv=>whnf);repeat' ((first|((with_reducible refine br_id ?_);((with_reducible refine br_dec (fun hx=>?_) (fun hx=>?_))<;>(try (exfalso;first|omega|contradiction))))|((with_reducible refine ld_id ?_);(apply ld_hs hp;(focus repeat' constructor);exact rfl))|((with_reducible refine gen_id ?_);(apply gen_len;exact rfl;exact rfl;assumption)))<;>(conv=>whnf)))
  exact ps_val (v':= .bool true) rfl ⟨by rw [show jobS x.ht x.jobs.l=true from allR_yes fun k hk=>hall k (by omega)],hp.chg⟩
end Go.Proofs.YteabebmlclgakaaGreat
/- DocR: which state may be, by the document. Of states that are few. -/
namespace Go.Proofs.YteabebmlclgakaaGreat
open Go.RowKit
set_option maxRecDepth 100000
set_option maxHeartbeats 4000000
theorem rchain31_any (w0:World) (x:Sta):Calls Tryz.prog 54 #[x.v] w0 fun e w'=>e= .returned (.agg #[i64 x.cfg.dep,u32 x.ht,x.win.v])∧Chg N0 w0 w':=by
 have hp:=Hp.start (S:=N0) w0
 refine calls_x (args:= [_]) tabOk Tryz.func54 Tryz.ntmps54 Tryz.results54 rfl (Nat.le_of_ble_eq_true rfl) ?_
 ((conv=>whnf);repeat' ((first|((with_reducible refine cn_id ?_);(refine cn rfl ?_))|((with_reducible refine ld_id ?_);(apply ld_hs hp;(focus repeat' constructor);exact rfl))|((with_reducible refine ldn_id ?_);(apply lda_hs hp;(focus repeat' constructor);exact rfl))|((with_reducible refine al_id ?_);(refine al_cel hp ?_;clear hp;intro bb w hp))|((with_reducible refine st_id ?_);(apply sta_hs hp;(focus repeat' constructor);exact rfl;exact rfl;clear hp;intro w hp;(try dsimp only [List.set] at hp)))|((with_reducible refine gen_id ?_);(apply gen_build;exact rfl;exact rfl)))<;>(conv=>whnf)))
 exact ps_val (v':= .agg #[i64 x.cfg.dep,u32 x.ht,x.win.v]) rfl ⟨rfl,hp.chg⟩
theorem rright31_any {B:Nat} {w0:World} {x:Sta} (hs:StaAt B w0 x) (hf:FewI x) (hlv:∀j∈x.jobs.l, -9223372036854775808≤j.live∧j.live≤9223372036854775807):Calls Tryz.prog 14 #[x.v] w0 fun e w'=>e= .returned (.bool (rightS x))∧Chg N0 w0 w':=by
 have hp:=Hp.start (S:=N0) w0
 have hB:∀b,N0 b→B≤b:=fun _ hh=>hh.elim
 obtain ⟨q1,h1⟩:∃q,soundC x.cfg=q:=⟨_,rfl⟩
 obtain ⟨q3,h3⟩:∃q,chS x.cfg.dep x.ht x.win.l=q:=⟨_,rfl⟩
 obtain ⟨q4,h4⟩:∃q,sesS x.next x.cfg.ses x.ses.l=q:=⟨_,rfl⟩
 obtain ⟨q5,h5⟩:∃q,blobS x.ses.l (x.blobs.l.map Blob.p)=q:=⟨_,rfl⟩
 obtain ⟨q6,h6⟩:∃q,jobS x.ht x.jobs.l=q:=⟨_,rfl⟩
 have c1:∀{w:World},Chg N0 w0 w→Calls Tryz.prog 52 #[x.cfg.v] w fun e w'=>e= .returned (.bool q1)∧Chg N0 w w':=fun hc=>by rw [←h1];exact rsound31_any _ _
 have c3:∀{w:World},Chg N0 w0 w→Calls Tryz.prog 53 #[.agg #[i64 x.cfg.dep,u32 x.ht,x.win.v]] w fun e w'=>e= .returned (.bool q3)∧Chg N0 w w':=fun hc=>by
  rw [←h3]
  have t:=hs.keep hc hB
  exact rright26_any _ _ t.win t.tx (by have:=hf.win;omega)
 have c4:∀{w:World},Chg N0 w0 w→Calls Tryz.prog 55 #[x.v] w fun e w'=>e= .returned (.bool q4)∧Chg N0 w w':=fun hc=>by rw [←h4];exact rses31_any (hs.keep hc hB) hf
 have c5:∀{w:World},Chg N0 w0 w→Calls Tryz.prog 56 #[x.v] w fun e w'=>e= .returned (.bool q5)∧Chg N0 w w':=fun hc=>by rw [←h5];exact rblobs31_any (hs.keep hc hB) hf
 have c6:∀{w:World},Chg N0 w0 w→Calls Tryz.prog 57 #[x.v] w fun e w'=>e= .returned (.bool q6)∧Chg N0 w w':=fun hc=>by rw [←h6];exact rbre31_any (hs.keep hc hB) hf hlv
 have hR:rightS x=(q1 && (decide (x.halt=0∨x.halt=19∨x.halt=20∨x.halt=16) && (q3 && (q4 && (q5 && q6))))):=by unfold rightS haltE;rw [h1,h3,h4,h5,h6]
 rw [hR]
 clear hR h1 h3 h4 h5 h6
 by_cases hH:x.halt=0∨x.halt=19∨x.halt=20∨x.halt=16
 ·rw [decide_eq_true hH,Bool.true_and]
  refine calls_x (args:= [_]) tabOk Tryz.func14 Tryz.ntmps14 Tryz.results14 rfl (Nat.le_of_ble_eq_true rfl) ?_
  ((conv=>whnf);repeat' ((first|((with_reducible refine br_id ?_);first|(with_reducible refine br_t ?_)|(with_reducible refine br_f ?_)|((with_reducible refine br_eq (fun hx=>?_) (fun hx=>?_))<;>(try (exfalso;first|omega|contradiction)))|((with_reducible refine br_s (fun hx=>?_) (fun hx=>?_))<;>(try (exfalso;first|omega|contradiction))))|((with_reducible refine ld_id ?_);(apply ld_hs hp;(focus repeat' constructor);exact rfl))|((with_reducible refine ldn_id ?_);first|(apply lda_hs hp;(focus repeat' constructor);exact rfl)|(apply ldn_hs hp;(focus repeat' constructor);exact rfl;exact rfl))|((with_reducible refine al_id ?_);(refine al_cel hp ?_;clear hp;intro bb w hp))|((with_reducible refine cl_id ?_);first|((refine cl_eq ((c1 hp.chg)) rfl rfl ?_;rintro e w ⟨rfl,hcc⟩;replace hp:=hp.call0 hcc;refine ⟨_,rfl,?_⟩))|((refine cl_eq ((rchain31_any _ x)) rfl rfl ?_;rintro e w ⟨rfl,hcc⟩;replace hp:=hp.call0 hcc;refine ⟨_,rfl,?_⟩))|((refine cl_eq ((c3 hp.chg)) rfl rfl ?_;rintro e w ⟨rfl,hcc⟩;replace hp:=hp.call0 hcc;refine ⟨_,rfl,?_⟩))|((refine cl_eq ((c4 hp.chg)) rfl rfl ?_;rintro e w ⟨rfl,hcc⟩;replace hp:=hp.call0 hcc;refine ⟨_,rfl,?_⟩))|((refine cl_eq ((c5 hp.chg)) rfl rfl ?_;rintro e w ⟨rfl,hcc⟩;replace hp:=hp.call0 hcc;refine ⟨_,rfl,?_⟩))|((refine cl_eq ((c6 hp.chg)) rfl rfl ?_;rintro e w ⟨rfl,hcc⟩;replace hp:=hp.call0 hcc;refine ⟨_,rfl,?_⟩))))<;>(conv=>whnf)))
  all_goals first
   |(exfalso;omega)
   |exact ps_val (v':= .bool q6) rfl ⟨by simp_all,hp.chg⟩
   |exact ps_val (v':= .bool false) rfl ⟨by simp_all,hp.chg⟩
 ·rw [decide_eq_false hH,Bool.false_and,Bool.and_false]
  refine calls_x (args:= [_]) tabOk Tryz.func14 Tryz.ntmps14 Tryz.results14 rfl (Nat.le_of_ble_eq_true rfl) ?_
  ((conv=>whnf);repeat' ((first|((with_reducible refine br_id ?_);first|(with_reducible refine br_t ?_)|(with_reducible refine br_f ?_)|((with_reducible refine br_eq (fun hx=>?_) (fun hx=>?_))<;>(try (exfalso;first|omega|contradiction)))|((with_reducible refine br_s (fun hx=>?_) (fun hx=>?_))<;>(try (exfalso;first|omega|contradiction))))|((with_reducible refine ld_id ?_);(apply ld_hs hp;(focus repeat' constructor);exact rfl))|((with_reducible refine ldn_id ?_);first|(apply lda_hs hp;(focus repeat' constructor);exact rfl)|(apply ldn_hs hp;(focus repeat' constructor);exact rfl;exact rfl))|((with_reducible refine al_id ?_);(refine al_cel hp ?_;clear hp;intro bb w hp))|((with_reducible refine cl_id ?_);first|((refine cl_eq ((c1 hp.chg)) rfl rfl ?_;rintro e w ⟨rfl,hcc⟩;replace hp:=hp.call0 hcc;refine ⟨_,rfl,?_⟩))|((refine cl_eq ((rchain31_any _ x)) rfl rfl ?_;rintro e w ⟨rfl,hcc⟩;replace hp:=hp.call0 hcc;refine ⟨_,rfl,?_⟩))|((refine cl_eq ((c3 hp.chg)) rfl rfl ?_;rintro e w ⟨rfl,hcc⟩;replace hp:=hp.call0 hcc;refine ⟨_,rfl,?_⟩))))<;>(conv=>whnf)))
  all_goals first
   |(exfalso;omega)
   |exact ps_val (v':= .bool false) rfl ⟨rfl,hp.chg⟩
end Go.Proofs.YteabebmlclgakaaGreat
/- Plan5: the document's plan, and what it costs. Of states of a bounded bulk, and of at most 300 blocks. -/
namespace Go.Proofs.YteabebmlclgakaaGreat
open Go.RowKit
set_option maxRecDepth 100000
set_option maxHeartbeats 4000000
section
variable {B : Nat} {w0 : World} {x : Sta}
end
end Go.Proofs.YteabebmlclgakaaGreat
