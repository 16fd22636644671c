/- MImprintBytes20: parts of the proof of ImprintBytes: Decode, Dec1, Dec2. No condition of their own. -/
import Derived.Test.YtpbapnlnheahnaaGreatDoorMImprintBytes14
import Derived.Test.YtpbapnlnheahnaaGreatDoorMImprintBytes16
import Derived.Test.YtpbapnlnheahnaaGreatDoorMImprintBytes19
set_option linter.unusedSimpArgs false
set_option linter.unusedVariables false
namespace Go.Proofs.YtpbapnlnheahnaaGreatDoor
open Go.RowKit Go.Stop
set_option maxRecDepth 100000
set_option maxHeartbeats 2000000
theorem notUp_last {l:List Tier} {k:Nat} {y:Tier} (hl:l.length=k+1) (hy:l[k]? =some y) (fee:UInt32):notUp (l.map tk) fee=decide (fee.toNat≤y.fee.toNat):=by
 unfold notUp
 rw [List.getLast?_eq_getElem?,List.length_map,hl,List.getElem?_map,Nat.add_sub_cancel,hy]
 rfl
theorem rdCnt_some {l:List UInt8} {p:Nat} {f:Option Int} {most:Nat} (h:(rdCnt l p f most).2.2=none):1≤(rdCnt l p f most).1:=by
 unfold rdCnt at h ⊢
 dsimp only at h ⊢
 split at h
 ·cases h
 ·split at h
  ·rename_i hh;rw [if_pos hh];exact hh.1
  ·cases h
theorem rdTake_24 {l:List UInt8} {p n:Nat} {f:Option Int} (h:∀e,f=some e→e=2∨e=4):∀e,(rdTake l p f n).2.2=some e→e=2∨e=4:=fun e he=>by
 unfold rdTake at he
 split at he
 ·cases he
 ·cases f with
  |none=>simp at he;omega
  |some x=>simp at he;subst he;exact h x rfl
theorem rdCnt_24 {l:List UInt8} {p most:Nat} {f:Option Int} (h:∀e,f=some e→e=2∨e=4):∀e,(rdCnt l p f most).2.2=some e→e=2∨e=4:=fun e he=>by
 have h1:=rdTake_24 (l:=l) (p:=p) (n:=1) h
 unfold rdCnt at he
 dsimp only at he
 split at he
 ·rename_i e' h2
  simp at he
  subst he
  exact h1 _ h2
 ·split at he
  ·cases he
  ·simp at he;omega
theorem decode_any {B:Nat} {w0:World} {s:Sl UInt8} (h:SlAt B w0 u8L 1 s) (hn:s.l.length≤1000000):Calls Tryz.prog 80 #[s.v] w0 fun e w'=>∃r:Payload,r.l.map tk=(dec s.l).1∧e= .returned (.tuple #[r.pv,i64 (dec s.l).2])∧Made (star (payRs r)) w0 w':=by
 have hp:=Hp.start (S:=N0) w0
 have hB:∀b,N0 b→B≤b:=fun _ hh=>hh.elim
 have u1:=Tryz.underlying55
 have u2:=Tryz.underlying34
 have no24:∀e:Int,(none:Option Int)=some e→e=2∨e=4:=fun e he=>by cases he
 refine calls_x (args:= [_]) tabOk Tryz.func80 Tryz.ntmps80 Tryz.results80 rfl (Nat.le_of_ble_eq_true rfl) ?_
 ((conv=>whnf);repeat' (((with_reducible apply al_id);refine al_cel hp ?_;clear hp;intro bb w hp)<;>(conv=>whnf)))
 obtain ⟨b4,hb4⟩:∃b,b=bb:=⟨_,rfl⟩
 subst hb4
 obtain ⟨b2,hb2⟩:∃b,b=bb:=⟨_,rfl⟩
 subst hb2
 refine cl_of (rnew_any (h.keep hp.chg hB) hn) ?_
 rintro e w ⟨b,q,hq,rfl,hm⟩
 replace hp:=hp.add hm
 clear hm
 refine ⟨_,rfl,?_⟩
 have hql:q.l.length≤1000000:=by rw [hq];exact hn
 rw [←hq]
 clear hq hn h
 ((conv=>whnf))
 refine cl_of (rcount_any 8 (by omega) (Nat.zero_le _) hql (hp.get (j:=0) rfl)) ?_
 rintro e w ⟨f1,hf1,rfl,hm⟩
 replace hp:=hp.via (j:=0) rfl hm
 dsimp only [List.set] at hp
 clear hm
 refine ⟨_,rfl,?_⟩
 rcases hE:(rdCnt q.l 0 none 8).2.2 with _|e
 rotate_left
 ·have hE2:=rdCnt_24 (l:=q.l) (p:=0) (most:=8) no24 e hE
  have hp1:=(rdCnt_le (l:=q.l) (p:=0) (f:=none) (most:=8) (Nat.zero_le _)).1
  have hz:(rdCnt q.l 0 (badE none) 8).1=0∧dec q.l=([],e):=by
   show (rdCnt q.l 0 none 8).1=0∧_
   rcases hq2:q.l with _|⟨x,r⟩
   ·rw [hq2] at hE
    unfold rdCnt at hE ⊢
    rw [rdTake_short (by simp)] at hE ⊢
    simp at hE
    subst hE
    exact ⟨rfl,rfl⟩
   ·rw [hq2] at hE
    have hv:numV (((x::r).drop 0).take 1)=x.toNat:=by simp [numV]
    unfold rdCnt at hE ⊢
    rw [rdTake_yes (by simp)] at hE ⊢
    dsimp only at hE ⊢
    rw [hv] at hE ⊢
    by_cases hx:1≤x.toNat∧x.toNat≤8
    ·rw [if_pos hx] at hE;cases hE
    ·rw [if_neg hx] at hE ⊢
     simp at hE
     subst hE
     refine ⟨rfl,?_⟩
     unfold dec
     dsimp only
     rw [if_pos (by omega)]
  obtain ⟨hz,hd⟩:=hz
  rw [hz,hd]
  replace hf1:badE f1=some e:=hf1.trans hE
  obtain ⟨p1,hp1'⟩:∃p1,(rdCnt q.l 0 (badE none) 8).2.1=p1:=⟨_,rfl⟩
  replace hp1:p1≤q.l.length:=hp1'▸hp1
  rw [hp1'] at hp
  ((conv=>whnf))
  refine lp_inv (α:=Unit) (fun _=> [(2,ptr b2),(4,ptr b4),(5,ptr b),(14,i64 0),(15,i64 0)]) (fun _ w=>Hp N0 w0 w [star (rdRs b q p1 f1),cel b4 57 #[(Sl.nil:Payload).v],cel b2 57 #[(Sl.nil:Payload).v]]) (fun _=>0) () (by (repeat' (first|exact trivial|(refine ⟨rfl,?_⟩)))) hp ?_
  clear hp
  rintro _ e0 w hp
  have hdone:∀{w:World} {rs:List Res},Hp N0 w0 w rs→star (rdRs b q p1 f1)∈rs→Calls Tryz.prog 22 #[ptr b] w fun r w'=>r= .returned (i64 e)∧Chg N0 w w':=fun hp hm=>by
   have h1:=rdone_any (fun e' he'=>by rw [hf1] at he';cases he';omega) hp1 hql (hp.ok _ hm)
   rw [hf1] at h1
   exact h1
  have hne:(e !=0)=true:=bne_iff_ne.2 (by omega)
  ((conv=>whnf);repeat' ((first|((with_reducible apply br_id);first|(with_reducible refine br_1 hne ?_)|((with_reducible refine br_dec (fun hx=>?_) (fun hx=>?_))<;>(try (exfalso;first|omega|contradiction))))|((with_reducible apply cn_id);refine cn rfl ?_)|((with_reducible apply ldn_id);apply lda_hs hp;(focus repeat' constructor);exact rfl)|((with_reducible apply st_id);apply sta_hs hp;(focus repeat' constructor);exact rfl;exact rfl;clear hp;intro w hp;(try dsimp only [List.set] at hp))|((with_reducible apply gen_id);apply gen_build;exact rfl;exact rfl)|((with_reducible apply cl_id);(refine cl_eq ((hdone hp (List.mem_cons_self ..))) rfl rfl ?_;rintro e w ⟨rfl,hcc⟩;replace hp:=hp.call0 hcc;refine ⟨_,rfl,?_⟩)))<;>(conv=>whnf)))
  exact ps_val (v':= .tuple #[Payload.pv Sl.nil,i64 e]) rfl ⟨Sl.nil,rfl,rfl,payNil_made hp.chg⟩
 ·obtain ⟨x,r,hq2,hx,hc⟩:∃x r,q.l=x::r∧(1≤x.toNat∧x.toNat≤8)∧rdCnt q.l 0 none 8=(x.toNat,1,none):=by
   rcases hq2:q.l with _|⟨x,r⟩
   ·rw [hq2] at hE
    unfold rdCnt at hE
    rw [rdTake_short (by simp)] at hE
    cases hE
   ·rw [hq2] at hE
    have hv:numV (((x::r).drop 0).take 1)=x.toNat:=by simp [numV]
    refine ⟨x,r,rfl,?_⟩
    unfold rdCnt at hE ⊢
    rw [rdTake_yes (by simp)] at hE ⊢
    dsimp only at hE ⊢
    rw [hv] at hE ⊢
    by_cases hx:1≤x.toNat∧x.toNat≤8
    ·rw [if_pos hx] at hE ⊢;exact ⟨hx,rfl⟩
    ·rw [if_neg hx] at hE;cases hE
  have hd:dec q.l=decE (decA x.toNat (q.l.drop 1) []):=by
   rw [hq2]
   unfold dec
   dsimp only
   rw [if_neg (by omega)]
   rfl
  rw [hd]
  have hc':rdCnt q.l 0 (badE none) 8=(x.toNat,1,none):=hc
  rw [hc'] at hp hf1 ⊢
  obtain rfl:f1=none:=by cases f1 with|none=>rfl|some y=>cases hf1
  obtain ⟨m,hm⟩:∃m,x.toNat=m:=⟨_,rfl⟩
  obtain ⟨D,hD⟩:∃D,decA m (q.l.drop 1) []=D:=⟨_,rfl⟩
  have h1l:1≤q.l.length:=by rw [hq2];simp
  rw [hm] at hx ⊢
  rw [hD]
  clear hc hc' hE hq2 hd hm hf1
  ((conv=>whnf))
  have hp0:Hp N0 w0 w (star (rdRs b q 1 none)::cel b4 57 #[(Sl.nil:Payload).v]::cel b2 57 #[(Sl.nil:Payload).v]::payRs Sl.nil):=by
   have h1:=hp.new (Chg.refl _ _) (r:=rowR 88 2 Tier.c Sl.nil) (rowR_ok.2 ⟨World.ownsRow_nil w 0 _ _,by simp [Sl.nil]⟩) fun b hb=>by have h1:=rowR_dom.1 hb;cases h1
   exact h1.perm (List.perm_append_singleton _ [_,_,_]).symm
  clear hp
  refine lp_inv (α:=Nat×Payload×Nat) (fun a=> [(2,ptr b2),(4,ptr b4),(5,ptr b),(14,i64 m),(15,i64 a.1)]) (fun a w=>a.1≤m∧a.2.1.l.length=a.1∧a.2.2≤q.l.length∧decA (m - a.1) (q.l.drop a.2.2) (a.2.1.l.map tk)=D∧Hp N0 w0 w (star (rdRs b q a.2.2 none)::cel b4 57 #[a.2.1.v]::cel b2 57 #[(Sl.nil:Payload).v]::payRs a.2.1)) (fun a=>m - a.1) (0,Sl.nil,1) (by (repeat' (first|exact trivial|(refine ⟨rfl,?_⟩)))) ⟨by omega,rfl,h1l,hD,hp0⟩ ?_
  clear hp0 hD h1l
  rintro ⟨i,pp,p⟩ e0 w ⟨hi,hpl,hpq,hDD,hp⟩
  dsimp only at hi hpl hpq hDD hp ⊢
  rcases Nat.lt_or_ge i m with hlt|hge
  ·((conv=>whnf);repeat' (((with_reducible apply br_id);(with_reducible refine br_dec (fun hx=>?_) (fun hx=>?_))<;>(try (exfalso;first|omega|contradiction)))<;>(conv=>whnf)))
   refine cl_of (rnum_any 4 (by omega) hpq hql (hp.get (j:=0) rfl)) ?_
   rintro e w ⟨f1,hf1,rfl,hm⟩
   replace hp:=hp.via (j:=0) rfl hm
   dsimp only [List.set] at hp
   clear hm
   refine ⟨_,rfl,?_⟩
   have hsk:=step_ok (pp.l.map tk) hpq
   dsimp only at hsk
   have hlt4:=numV_lt (rdTake q.l p none 4).1
   have hle4:=rdTake_le (f:=none) (n:=4) hpq
   have hN32:numV (rdTake q.l p none 4).1 < 4294967296:=by
    have h3:256 ^ (rdTake q.l p none 4).1.length≤256 ^ 4:=Nat.pow_le_pow_right (by omega) hle4.2
    have h4:256 ^ 4=4294967296:=by decide
    omega
   have hst:stepF q.l p (pp.l.map tk)=if notUp (pp.l.map tk) (UInt32.ofNat (numV (rdTake q.l p none 4).1))=true then (rdTake q.l p none 4).2.2.or (some 4) else (rdTake q.l p none 4).2.2:=rfl
   have hs24:=stepF_bad (q:=q.l) (p:=p) (ts:=pp.l.map tk)
   replace hf1:badE f1=(rdTake q.l p none 4).2.2:=hf1
   replace hp:Hp N0 w0 w (star (rdRs b q (rdTake q.l p none 4).2.1 f1)::cel b4 57 #[pp.v]::cel b2 57 #[(Sl.nil:Payload).v]::payRs pp):=hp
   show fcv (Value.int IntKind.u64 ((numV (rdTake q.l p none 4).1:Nat):Int)) _
   obtain ⟨fee,hfee⟩:∃fee,UInt32.ofNat (numV (rdTake q.l p none 4).1)=fee:=⟨_,rfl⟩
   have hfN:numV (rdTake q.l p none 4).1=fee.toNat:=by rw [←hfee];simp;omega
   rw [hfee] at hsk hst
   rw [hfN]
   obtain ⟨p1,hp1⟩:∃p1,(rdTake q.l p none 4).2.1=p1:=⟨_,rfl⟩
   rw [hp1] at hsk hp hle4
   have hp1q:=hle4.1
   clear hlt4 hle4 hN32
   have hfee32:=fee.toNat_lt
   obtain ⟨c,hc⟩:∃c,rdCnt q.l p1 (stepF q.l p (pp.l.map tk)) 64=c:=⟨_,rfl⟩
   rw [hc] at hsk
   obtain ⟨t,ht⟩:∃t,rdTake q.l c.2.1 c.2.2 c.1=t:=⟨_,rfl⟩
   rw [ht] at hsk
   have hc64:c.1≤64:=by rw [←hc];exact (rdCnt_le hp1q).2
   have hc2:c.2.1≤q.l.length:=by rw [←hc];exact (rdCnt_le hp1q).1
   have hc1:c.2.2=none→1≤c.1:=fun e=>by rw [←hc] at e ⊢;exact rdCnt_some e
   have ht2:t.2.1≤q.l.length:=by rw [←ht];exact (rdTake_le hc2).1
   have ht24:∀e,t.2.2=some e→e=2∨e=4:=by rw [←ht];exact rdTake_24 (by rw [←hc];exact rdCnt_24 hs24)
   rcases Nat.eq_zero_or_pos i with h0|h0
   ·have hnu:notUp (pp.l.map tk) fee=false:=by
     have:pp.l= []:=List.eq_nil_of_length_eq_zero (by omega)
     rw [this]
     rfl
    have hf2:badE f1=stepF q.l p (pp.l.map tk):=by rw [hst,hnu,if_neg (by simp),hf1]
    ((conv=>whnf);repeat' ((first|((with_reducible apply br_id);first|with_reducible refine br_f ?_|((with_reducible refine br_dec (fun hx=>?_) (fun hx=>?_))<;>(try (exfalso;first|omega|contradiction))))|((with_reducible apply ar_id);refine ar_u32 (by omega) ?_)|((with_reducible apply cn_id);refine cn rfl ?_)|((with_reducible apply al_id);refine al_cel hp ?_;clear hp;intro bb w hp)|((with_reducible apply st_id);apply sta_hs hp;(focus repeat' constructor);exact rfl;exact rfl;clear hp;intro w hp;(try dsimp only [List.set] at hp))|((with_reducible apply gen_id);apply gen_build;exact rfl;exact rfl)|((with_reducible apply dr_id);refine dr_auto tabOk (by kernel_rfl) (by decide+kernel) ?_;(try replace hp:=hp.drew)))<;>(conv=>whnf)))
    obtain ⟨b8,hb8⟩:∃b,b=bb:=⟨_,rfl⟩
    subst hb8
    replace hp:Hp N0 w0 _ (cel b8 88 #[u32 fee,(Sl.nil:Bytes).v]::star (rdRs b q p1 _)::cel b4 57 #[pp.v]::cel b2 57 #[(Sl.nil:Payload).v]::payRs pp):=hp
    refine cl_of (rcount_any 64 (by omega) hp1q hql (hp.get (j:=1) rfl)) ?_
    rintro e w ⟨f3,hf3,rfl,hm⟩
    replace hp:=hp.via (j:=1) rfl hm
    dsimp only [List.set] at hp
    clear hm
    refine ⟨_,rfl,?_⟩
    rw [hf2] at hp hf3 ⊢
    rw [hc] at hp hf3 ⊢
    ((conv=>whnf))
    refine cl_of (rbytes_any c.1 (by omega) (fun e=>by rw [e] at hf3;exact hc1 hf3.symm) hc2 hql (hp.get (j:=1) rfl)) ?_
    rintro e w ⟨r,f4,hr,hf4,rfl,hm⟩
    replace hp:=hp.via (j:=1) rfl hm
    dsimp only [List.set] at hp
    clear hm
    refine ⟨_,rfl,?_⟩
    rw [hf3] at hp hr hf4
    rw [ht] at hp hr hf4
    replace hp:=(hp.perm (List.perm_middle (l₁:= [_]))).split1
    dsimp only [List.cons_append,List.nil_append] at hp
    have h4:∀e,badE f4=some e→1≤e∧e≤4:=fun e he=>by have:=ht24 e (hf4▸he);omega
    rcases hd1:dec1 (q.l.drop p) (pp.l.map tk) with e|⟨tt,rr⟩
    ·rw [hd1] at hsk
     obtain ⟨hsk1,hsk2⟩:=hsk
     rw [hsk1] at hf4
     have hDe:D= .error e:=by
      rw [←hDD]
      obtain ⟨k,hk⟩:∃k,m - i=k+1:=⟨m - i - 1,by omega⟩
      rw [hk]
      unfold decA
      rw [hd1]
     have hrerr:∀{w:World} {rs:List Res},Hp N0 w0 w rs→star (rdRs b q t.2.1 f4)∈rs→Calls Tryz.prog 69 #[ptr b] w fun r w'=>r= .returned (i64 e)∧Chg N0 w w':=fun hp hm=>by
      have h1:=rerr_any h4 (hp.ok _ hm)
      rw [hf4] at h1
      exact h1
     have hrdone:∀{w:World} {rs:List Res},Hp N0 w0 w rs→star (rdRs b q t.2.1 f4)∈rs→Calls Tryz.prog 22 #[ptr b] w fun r w'=>r= .returned (i64 e)∧Chg N0 w w':=fun hp hm=>by
      have h1:=rdone_any h4 ht2 hql (hp.ok _ hm)
      rw [hf4] at h1
      exact h1
     have hne:(e !=0)=true:=bne_iff_ne.2 (by omega)
     ((conv=>whnf);repeat' ((first|((with_reducible apply br_id);(with_reducible refine br_1 hne ?_))|((with_reducible apply cn_id);refine cn rfl ?_)|((with_reducible apply ldn_id);apply lda_hs hp;(focus repeat' constructor);exact rfl)|((with_reducible apply st_id);first|(apply sta_hs hp;(focus repeat' constructor);exact rfl;exact rfl;clear hp;intro w hp;(try dsimp only [List.set] at hp))|(apply st_hs hp;(focus repeat' constructor);exact rfl;exact rfl;clear hp;intro w hp;(try dsimp only [List.set] at hp)))|((with_reducible apply gen_id);apply gen_build;exact rfl;exact rfl)|((with_reducible apply cl_id);first|((refine cl_eq ((hrerr hp (List.mem_cons_of_mem _ (List.mem_cons_self ..)))) rfl rfl ?_;rintro e w ⟨rfl,hcc⟩;replace hp:=hp.call0 hcc;refine ⟨_,rfl,?_⟩))|((refine cl_eq ((hrdone hp (List.mem_cons_of_mem _ (List.mem_cons_self ..)))) rfl rfl ?_;rintro e w ⟨rfl,hcc⟩;replace hp:=hp.call0 hcc;refine ⟨_,rfl,?_⟩))))<;>(conv=>whnf)))
     exact ps_val (v':= .tuple #[Payload.pv Sl.nil,i64 e]) rfl ⟨Sl.nil,by rw [hDe];rfl,by rw [hDe];rfl,payNil_made hp.chg⟩
    ·rw [hd1] at hsk
     obtain ⟨hsk1,hsk2,hsk3,hsk4⟩:=hsk
     rw [hsk1] at hf4
     obtain rfl:f4=none:=by cases f4 with|none=>rfl|some y=>cases hf4
     have hDe:decA (m - (i+1)) rr (pp.l.map tk++ [tt])=D:=by
      rw [←hDD]
      obtain ⟨k,hk⟩:∃k,m - i=k+1:=⟨m - i - 1,by omega⟩
      rw [hk,show m - (i+1)=k by omega]
      conv=>rhs;unfold decA
      rw [hd1]
     have hrerr:∀{w:World} {rs:List Res},Hp N0 w0 w rs→star (rdRs b q t.2.1 none)∈rs→Calls Tryz.prog 69 #[ptr b] w fun r w'=>r= .returned (i64 0)∧Chg N0 w w':=fun hp hm=>rerr_any h4 (hp.ok _ hm)
     ((conv=>whnf);repeat' ((first|((with_reducible apply br_id);(with_reducible refine br_ne (fun hx=>?_) (fun hx=>?_))<;>(try (exfalso;first|omega|contradiction)))|((with_reducible apply ar_id);refine ar_i64 (by omega) ?_)|((with_reducible apply cn_id);refine cn rfl ?_)|((with_reducible apply ld_id);apply ld_hs hp;(focus repeat' constructor);exact rfl)|((with_reducible apply ldn_id);apply lda_hs hp;(focus repeat' constructor);exact rfl)|((with_reducible apply st_id);first|(apply sta_hs hp;(focus repeat' constructor);exact rfl;exact rfl;clear hp;intro w hp;(try dsimp only [List.set] at hp))|(apply st_hs hp;(focus repeat' constructor);exact rfl;exact rfl;clear hp;intro w hp;(try dsimp only [List.set] at hp)))|((with_reducible apply gen_id);first|((refine gen_bs rfl hp el_tier Tier.c [⟨fee,r⟩] [Tier.v ⟨fee,r⟩] rfl rfl rfl (fun _ hh=>by simp at hh;subst hh;rfl) (by omega) ?_);clear hp;intro br w hp)|((refine gen_app (s:=pp) rfl hp 6 rfl el_tier rfl ⟨some ⟨br,0,none⟩,1, [⟨fee,r⟩]⟩ rfl (hp.row (j:=0) rfl) (fun _ _=>rfl) tierL_one (by simp only [List.length_cons,List.length_nil];omega) (by simp only [maxLen,List.length_cons,List.length_nil];omega) ?_);clear hp;intro A2 c2 w hp;dsimp only [List.set] at hp))|((with_reducible apply cl_id);(refine cl_eq ((hrerr hp (List.mem_cons_of_mem _ (List.mem_cons_self ..)))) rfl rfl ?_;rintro e w ⟨rfl,hcc⟩;replace hp:=hp.call0 hcc;refine ⟨_,rfl,?_⟩)))<;>(conv=>whnf)))
     have htk:tk ⟨fee,r⟩=tt:=by rw [hsk2,←hr];rfl
     refine lp_next (i+1,⟨A2,c2,pp.l++ [⟨fee,r⟩]⟩,t.2.1) (by show m - (i+1) < m - i;omega) (by (repeat' (first|exact trivial|(refine ⟨rfl,?_⟩)))) ⟨by show i+1≤m;omega,by show (pp.l++ [_]).length=i+1;rw [List.length_append,hpl];rfl,ht2,?_,?_⟩
     ·show decA (m - (i+1)) (q.l.drop t.2.1) ((pp.l++ [_]).map tk)=D
      rw [List.map_append,←hsk3,List.map_cons,List.map_nil,htk]
      exact hDe
     ·have h1:=hp.sub (rs':=_::_::_::_::_::pp.l.map txR) (List.Sublist.cons _ (List.Sublist.cons_cons _ (List.Sublist.cons_cons _ (List.Sublist.cons _ (List.Sublist.refl _)))))
      have h2:=h1.perm (List.perm_append_singleton _ _).symm
      show Hp N0 w0 w (_::_::_::_::(pp.l++ [_]).map txR)
      rw [List.map_append]
      exact h2
   ·obtain ⟨k,hik⟩:∃k,i=k+1:=⟨i - 1,by omega⟩
    obtain ⟨bA,oA,y,hA,hbA,hrow,hy⟩:=(hp.row (j:=3) rfl).has (i:=k) (by omega)
    have hnu:=notUp_last (hpl.trans hik) hy fee
    ((conv=>whnf);repeat' ((first|((with_reducible apply br_id);first|with_reducible refine br_t ?_|((with_reducible refine br_dec (fun hx=>?_) (fun hx=>?_))<;>(try (exfalso;first|omega|contradiction))))|((with_reducible apply ar_id);first|(refine ar_n (k) (by omega) (by omega) ?_)|refine ar_u32 (by omega) ?_)|((with_reducible apply cn_id);refine cn rfl ?_)|((with_reducible apply ld_id);first|(refine ld_own hp 4 rfl ‹_› _ _ rfl ‹_› (by rfl) ?_)|(apply ld_hs hp;(focus repeat' constructor);exact rfl))|((with_reducible apply al_id);refine al_cel hp ?_;clear hp;intro bb w hp)|((with_reducible apply st_id);apply sta_hs hp;(focus repeat' constructor);exact rfl;exact rfl;clear hp;intro w hp;(try dsimp only [List.set] at hp))|((with_reducible apply gen_id);apply gen_build;exact rfl;exact rfl)|((with_reducible apply dr_id);refine dr_auto tabOk (by kernel_rfl) (by decide+kernel) ?_;(try replace hp:=hp.drew))|((with_reducible apply rd_id);(refine rd_ixs rfl rfl ‹_› rfl rfl (by omega) ?_)))<;>(conv=>whnf)))
    ·obtain ⟨b8,hb8⟩:∃b,b=bb:=⟨_,rfl⟩
     subst hb8
     replace hp:Hp N0 w0 _ (cel b8 88 #[u32 fee,(Sl.nil:Bytes).v]::star (rdRs b q p1 _)::cel b4 57 #[pp.v]::cel b2 57 #[(Sl.nil:Payload).v]::payRs pp):=hp
     refine cl_of (rfail_any 4 (by decide) (hp.get (j:=1) rfl)) ?_
     rintro e w ⟨rfl,f2,hf2,hm⟩
     replace hp:=hp.via (j:=1) rfl hm
     dsimp only [List.set] at hp
     clear hm
     refine ⟨_,rfl,?_⟩
     replace hf2:badE f2=stepF q.l p (pp.l.map tk):=by rw [hst,hnu,if_pos (decide_eq_true (by omega)),hf2,hf1]
     ((conv=>whnf))
     refine cl_of (rcount_any 64 (by omega) hp1q hql (hp.get (j:=1) rfl)) ?_
     rintro e w ⟨f3,hf3,rfl,hm⟩
     replace hp:=hp.via (j:=1) rfl hm
     dsimp only [List.set] at hp
     clear hm
     refine ⟨_,rfl,?_⟩
     rw [hf2] at hp hf3 ⊢
     rw [hc] at hp hf3 ⊢
     ((conv=>whnf))
     refine cl_of (rbytes_any c.1 (by omega) (fun e=>by rw [e] at hf3;exact hc1 hf3.symm) hc2 hql (hp.get (j:=1) rfl)) ?_
     rintro e w ⟨r,f4,hr,hf4,rfl,hm⟩
     replace hp:=hp.via (j:=1) rfl hm
     dsimp only [List.set] at hp
     clear hm
     refine ⟨_,rfl,?_⟩
     rw [hf3] at hp hr hf4
     rw [ht] at hp hr hf4
     replace hp:=(hp.perm (List.perm_middle (l₁:= [_]))).split1
     dsimp only [List.cons_append,List.nil_append] at hp
     have h4:∀e,badE f4=some e→1≤e∧e≤4:=fun e he=>by have:=ht24 e (hf4▸he);omega
     rcases hd1:dec1 (q.l.drop p) (pp.l.map tk) with e|⟨tt,rr⟩
     ·rw [hd1] at hsk
      obtain ⟨hsk1,hsk2⟩:=hsk
      rw [hsk1] at hf4
      have hDe:D= .error e:=by
       rw [←hDD]
       obtain ⟨k,hk⟩:∃k,m - i=k+1:=⟨m - i - 1,by omega⟩
       rw [hk]
       unfold decA
       rw [hd1]
      have hrerr:∀{w:World} {rs:List Res},Hp N0 w0 w rs→star (rdRs b q t.2.1 f4)∈rs→Calls Tryz.prog 69 #[ptr b] w fun r w'=>r= .returned (i64 e)∧Chg N0 w w':=fun hp hm=>by
       have h1:=rerr_any h4 (hp.ok _ hm)
       rw [hf4] at h1
       exact h1
      have hrdone:∀{w:World} {rs:List Res},Hp N0 w0 w rs→star (rdRs b q t.2.1 f4)∈rs→Calls Tryz.prog 22 #[ptr b] w fun r w'=>r= .returned (i64 e)∧Chg N0 w w':=fun hp hm=>by
       have h1:=rdone_any h4 ht2 hql (hp.ok _ hm)
       rw [hf4] at h1
       exact h1
      have hne:(e !=0)=true:=bne_iff_ne.2 (by omega)
      ((conv=>whnf);repeat' ((first|((with_reducible apply br_id);(with_reducible refine br_1 hne ?_))|((with_reducible apply cn_id);refine cn rfl ?_)|((with_reducible apply ldn_id);apply lda_hs hp;(focus repeat' constructor);exact rfl)|((with_reducible apply st_id);first|(apply sta_hs hp;(focus repeat' constructor);exact rfl;exact rfl;clear hp;intro w hp;(try dsimp only [List.set] at hp))|(apply st_hs hp;(focus repeat' constructor);exact rfl;exact rfl;clear hp;intro w hp;(try dsimp only [List.set] at hp)))|((with_reducible apply gen_id);apply gen_build;exact rfl;exact rfl)|((with_reducible apply cl_id);first|((refine cl_eq ((hrerr hp (List.mem_cons_of_mem _ (List.mem_cons_self ..)))) rfl rfl ?_;rintro e w ⟨rfl,hcc⟩;replace hp:=hp.call0 hcc;refine ⟨_,rfl,?_⟩))|((refine cl_eq ((hrdone hp (List.mem_cons_of_mem _ (List.mem_cons_self ..)))) rfl rfl ?_;rintro e w ⟨rfl,hcc⟩;replace hp:=hp.call0 hcc;refine ⟨_,rfl,?_⟩))))<;>(conv=>whnf)))
      exact ps_val (v':= .tuple #[Payload.pv Sl.nil,i64 e]) rfl ⟨Sl.nil,by rw [hDe];rfl,by rw [hDe];rfl,payNil_made hp.chg⟩
     ·rw [hd1] at hsk
      obtain ⟨hsk1,hsk2,hsk3,hsk4⟩:=hsk
      rw [hsk1] at hf4
      obtain rfl:f4=none:=by cases f4 with|none=>rfl|some y=>cases hf4
      have hDe:decA (m - (i+1)) rr (pp.l.map tk++ [tt])=D:=by
       rw [←hDD]
       obtain ⟨k,hk⟩:∃k,m - i=k+1:=⟨m - i - 1,by omega⟩
       rw [hk,show m - (i+1)=k by omega]
       conv=>rhs;unfold decA
       rw [hd1]
      have hrerr:∀{w:World} {rs:List Res},Hp N0 w0 w rs→star (rdRs b q t.2.1 none)∈rs→Calls Tryz.prog 69 #[ptr b] w fun r w'=>r= .returned (i64 0)∧Chg N0 w w':=fun hp hm=>rerr_any h4 (hp.ok _ hm)
      ((conv=>whnf);repeat' ((first|((with_reducible apply br_id);(with_reducible refine br_ne (fun hx=>?_) (fun hx=>?_))<;>(try (exfalso;first|omega|contradiction)))|((with_reducible apply ar_id);refine ar_i64 (by omega) ?_)|((with_reducible apply cn_id);refine cn rfl ?_)|((with_reducible apply ld_id);apply ld_hs hp;(focus repeat' constructor);exact rfl)|((with_reducible apply ldn_id);apply lda_hs hp;(focus repeat' constructor);exact rfl)|((with_reducible apply st_id);first|(apply sta_hs hp;(focus repeat' constructor);exact rfl;exact rfl;clear hp;intro w hp;(try dsimp only [List.set] at hp))|(apply st_hs hp;(focus repeat' constructor);exact rfl;exact rfl;clear hp;intro w hp;(try dsimp only [List.set] at hp)))|((with_reducible apply gen_id);first|((refine gen_bs rfl hp el_tier Tier.c [⟨fee,r⟩] [Tier.v ⟨fee,r⟩] rfl rfl rfl (fun _ hh=>by simp at hh;subst hh;rfl) (by omega) ?_);clear hp;intro br w hp)|((refine gen_app (s:=pp) rfl hp 6 rfl el_tier rfl ⟨some ⟨br,0,none⟩,1, [⟨fee,r⟩]⟩ rfl (hp.row (j:=0) rfl) (fun _ _=>rfl) tierL_one (by simp only [List.length_cons,List.length_nil];omega) (by simp only [maxLen,List.length_cons,List.length_nil];omega) ?_);clear hp;intro A2 c2 w hp;dsimp only [List.set] at hp))|((with_reducible apply cl_id);(refine cl_eq ((hrerr hp (List.mem_cons_of_mem _ (List.mem_cons_self ..)))) rfl rfl ?_;rintro e w ⟨rfl,hcc⟩;replace hp:=hp.call0 hcc;refine ⟨_,rfl,?_⟩)))<;>(conv=>whnf)))
      have htk:tk ⟨fee,r⟩=tt:=by rw [hsk2,←hr];rfl
      refine lp_next (i+1,⟨A2,c2,pp.l++ [⟨fee,r⟩]⟩,t.2.1) (by show m - (i+1) < m - i;omega) (by (repeat' (first|exact trivial|(refine ⟨rfl,?_⟩)))) ⟨by show i+1≤m;omega,by show (pp.l++ [_]).length=i+1;rw [List.length_append,hpl];rfl,ht2,?_,?_⟩
      ·show decA (m - (i+1)) (q.l.drop t.2.1) ((pp.l++ [_]).map tk)=D
       rw [List.map_append,←hsk3,List.map_cons,List.map_nil,htk]
       exact hDe
      ·have h1:=hp.sub (rs':=_::_::_::_::_::pp.l.map txR) (List.Sublist.cons _ (List.Sublist.cons_cons _ (List.Sublist.cons_cons _ (List.Sublist.cons _ (List.Sublist.refl _)))))
       have h2:=h1.perm (List.perm_append_singleton _ _).symm
       show Hp N0 w0 w (_::_::_::_::(pp.l++ [_]).map txR)
       rw [List.map_append]
       exact h2
    ·have hf2:badE f1=stepF q.l p (pp.l.map tk):=by rw [hst,hnu,decide_eq_false (by omega),if_neg (by simp),hf1]
     obtain ⟨b8,hb8⟩:∃b,b=bb:=⟨_,rfl⟩
     subst hb8
     replace hp:Hp N0 w0 _ (cel b8 88 #[u32 fee,(Sl.nil:Bytes).v]::star (rdRs b q p1 _)::cel b4 57 #[pp.v]::cel b2 57 #[(Sl.nil:Payload).v]::payRs pp):=hp
     refine cl_of (rcount_any 64 (by omega) hp1q hql (hp.get (j:=1) rfl)) ?_
     rintro e w ⟨f3,hf3,rfl,hm⟩
     replace hp:=hp.via (j:=1) rfl hm
     dsimp only [List.set] at hp
     clear hm
     refine ⟨_,rfl,?_⟩
     rw [hf2] at hp hf3 ⊢
     rw [hc] at hp hf3 ⊢
     ((conv=>whnf))
     refine cl_of (rbytes_any c.1 (by omega) (fun e=>by rw [e] at hf3;exact hc1 hf3.symm) hc2 hql (hp.get (j:=1) rfl)) ?_
     rintro e w ⟨r,f4,hr,hf4,rfl,hm⟩
     replace hp:=hp.via (j:=1) rfl hm
     dsimp only [List.set] at hp
     clear hm
     refine ⟨_,rfl,?_⟩
     rw [hf3] at hp hr hf4
     rw [ht] at hp hr hf4
     replace hp:=(hp.perm (List.perm_middle (l₁:= [_]))).split1
     dsimp only [List.cons_append,List.nil_append] at hp
     have h4:∀e,badE f4=some e→1≤e∧e≤4:=fun e he=>by have:=ht24 e (hf4▸he);omega
     rcases hd1:dec1 (q.l.drop p) (pp.l.map tk) with e|⟨tt,rr⟩
     ·rw [hd1] at hsk
      obtain ⟨hsk1,hsk2⟩:=hsk
      rw [hsk1] at hf4
      have hDe:D= .error e:=by
       rw [←hDD]
       obtain ⟨k,hk⟩:∃k,m - i=k+1:=⟨m - i - 1,by omega⟩
       rw [hk]
       unfold decA
       rw [hd1]
      have hrerr:∀{w:World} {rs:List Res},Hp N0 w0 w rs→star (rdRs b q t.2.1 f4)∈rs→Calls Tryz.prog 69 #[ptr b] w fun r w'=>r= .returned (i64 e)∧Chg N0 w w':=fun hp hm=>by
       have h1:=rerr_any h4 (hp.ok _ hm)
       rw [hf4] at h1
       exact h1
      have hrdone:∀{w:World} {rs:List Res},Hp N0 w0 w rs→star (rdRs b q t.2.1 f4)∈rs→Calls Tryz.prog 22 #[ptr b] w fun r w'=>r= .returned (i64 e)∧Chg N0 w w':=fun hp hm=>by
       have h1:=rdone_any h4 ht2 hql (hp.ok _ hm)
       rw [hf4] at h1
       exact h1
      have hne:(e !=0)=true:=bne_iff_ne.2 (by omega)
      ((conv=>whnf);repeat' ((first|((with_reducible apply br_id);(with_reducible refine br_1 hne ?_))|((with_reducible apply cn_id);refine cn rfl ?_)|((with_reducible apply ldn_id);apply lda_hs hp;(focus repeat' constructor);exact rfl)|((with_reducible apply st_id);first|(apply sta_hs hp;(focus repeat' constructor);exact rfl;exact rfl;clear hp;intro w hp;(try dsimp only [List.set] at hp))|(apply st_hs hp;(focus repeat' constructor);exact rfl;exact rfl;clear hp;intro w hp;(try dsimp only [List.set] at hp)))|((with_reducible apply gen_id);apply gen_build;exact rfl;exact rfl)|((with_reducible apply cl_id);first|((refine cl_eq ((hrerr hp (List.mem_cons_of_mem _ (List.mem_cons_self ..)))) rfl rfl ?_;rintro e w ⟨rfl,hcc⟩;replace hp:=hp.call0 hcc;refine ⟨_,rfl,?_⟩))|((refine cl_eq ((hrdone hp (List.mem_cons_of_mem _ (List.mem_cons_self ..)))) rfl rfl ?_;rintro e w ⟨rfl,hcc⟩;replace hp:=hp.call0 hcc;refine ⟨_,rfl,?_⟩))))<;>(conv=>whnf)))
      exact ps_val (v':= .tuple #[Payload.pv Sl.nil,i64 e]) rfl ⟨Sl.nil,by rw [hDe];rfl,by rw [hDe];rfl,payNil_made hp.chg⟩
     ·rw [hd1] at hsk
      obtain ⟨hsk1,hsk2,hsk3,hsk4⟩:=hsk
      rw [hsk1] at hf4
      obtain rfl:f4=none:=by cases f4 with|none=>rfl|some y=>cases hf4
      have hDe:decA (m - (i+1)) rr (pp.l.map tk++ [tt])=D:=by
       rw [←hDD]
       obtain ⟨k,hk⟩:∃k,m - i=k+1:=⟨m - i - 1,by omega⟩
       rw [hk,show m - (i+1)=k by omega]
       conv=>rhs;unfold decA
       rw [hd1]
      have hrerr:∀{w:World} {rs:List Res},Hp N0 w0 w rs→star (rdRs b q t.2.1 none)∈rs→Calls Tryz.prog 69 #[ptr b] w fun r w'=>r= .returned (i64 0)∧Chg N0 w w':=fun hp hm=>rerr_any h4 (hp.ok _ hm)
      ((conv=>whnf);repeat' ((first|((with_reducible apply br_id);(with_reducible refine br_ne (fun hx=>?_) (fun hx=>?_))<;>(try (exfalso;first|omega|contradiction)))|((with_reducible apply ar_id);refine ar_i64 (by omega) ?_)|((with_reducible apply cn_id);refine cn rfl ?_)|((with_reducible apply ld_id);apply ld_hs hp;(focus repeat' constructor);exact rfl)|((with_reducible apply ldn_id);apply lda_hs hp;(focus repeat' constructor);exact rfl)|((with_reducible apply st_id);first|(apply sta_hs hp;(focus repeat' constructor);exact rfl;exact rfl;clear hp;intro w hp;(try dsimp only [List.set] at hp))|(apply st_hs hp;(focus repeat' constructor);exact rfl;exact rfl;clear hp;intro w hp;(try dsimp only [List.set] at hp)))|((with_reducible apply gen_id);first|((refine gen_bs rfl hp el_tier Tier.c [⟨fee,r⟩] [Tier.v ⟨fee,r⟩] rfl rfl rfl (fun _ hh=>by simp at hh;subst hh;rfl) (by omega) ?_);clear hp;intro br w hp)|((refine gen_app (s:=pp) rfl hp 6 rfl el_tier rfl ⟨some ⟨br,0,none⟩,1, [⟨fee,r⟩]⟩ rfl (hp.row (j:=0) rfl) (fun _ _=>rfl) tierL_one (by simp only [List.length_cons,List.length_nil];omega) (by simp only [maxLen,List.length_cons,List.length_nil];omega) ?_);clear hp;intro A2 c2 w hp;dsimp only [List.set] at hp))|((with_reducible apply cl_id);(refine cl_eq ((hrerr hp (List.mem_cons_of_mem _ (List.mem_cons_self ..)))) rfl rfl ?_;rintro e w ⟨rfl,hcc⟩;replace hp:=hp.call0 hcc;refine ⟨_,rfl,?_⟩)))<;>(conv=>whnf)))
      have htk:tk ⟨fee,r⟩=tt:=by rw [hsk2,←hr];rfl
      refine lp_next (i+1,⟨A2,c2,pp.l++ [⟨fee,r⟩]⟩,t.2.1) (by show m - (i+1) < m - i;omega) (by (repeat' (first|exact trivial|(refine ⟨rfl,?_⟩)))) ⟨by show i+1≤m;omega,by show (pp.l++ [_]).length=i+1;rw [List.length_append,hpl];rfl,ht2,?_,?_⟩
      ·show decA (m - (i+1)) (q.l.drop t.2.1) ((pp.l++ [_]).map tk)=D
       rw [List.map_append,←hsk3,List.map_cons,List.map_nil,htk]
       exact hDe
      ·have h1:=hp.sub (rs':=_::_::_::_::_::pp.l.map txR) (List.Sublist.cons _ (List.Sublist.cons_cons _ (List.Sublist.cons_cons _ (List.Sublist.cons _ (List.Sublist.refl _)))))
       have h2:=h1.perm (List.perm_append_singleton _ _).symm
       show Hp N0 w0 w (_::_::_::_::(pp.l++ [_]).map txR)
       rw [List.map_append]
       exact h2
  ·have hDe:D= .ok (pp.l.map tk,q.l.drop p):=by
    rw [←hDD,show m - i=0 by omega]
    rfl
   have hrdone:∀{w:World} {rs:List Res},Hp N0 w0 w rs→star (rdRs b q p none)∈rs→Calls Tryz.prog 22 #[ptr b] w fun r w'=>r= .returned (i64 (if p=q.l.length then 0 else 3))∧Chg N0 w w':=fun hp hm=>rdone_any (f:=none) (fun e he=>by cases he) hpq hql (hp.ok _ hm)
   by_cases hpe:p=q.l.length
   ·rw [if_pos hpe] at hrdone
    have hdE:decE D=(pp.l.map tk,0):=by
     rw [hDe]
     unfold decE
     dsimp only
     rw [if_pos (by rw [hpe];exact List.drop_length)]
    ((conv=>whnf);repeat' ((first|((with_reducible apply br_id);first|((with_reducible refine br_dec (fun hx=>?_) (fun hx=>?_))<;>(try (exfalso;first|omega|contradiction)))|((with_reducible refine br_ne (fun hx=>?_) (fun hx=>?_))<;>(try (exfalso;first|omega|contradiction))))|((with_reducible apply cn_id);refine cn rfl ?_)|((with_reducible apply ldn_id);apply lda_hs hp;(focus repeat' constructor);exact rfl)|((with_reducible apply st_id);apply sta_hs hp;(focus repeat' constructor);exact rfl;exact rfl;clear hp;intro w hp;(try dsimp only [List.set] at hp))|((with_reducible apply cl_id);(refine cl_eq ((hrdone hp (List.mem_cons_self ..))) rfl rfl ?_;rintro e w ⟨rfl,hcc⟩;replace hp:=hp.call0 hcc;refine ⟨_,rfl,?_⟩)))<;>(conv=>whnf)))
    refine ps_val (v':= .tuple #[pp.pv,i64 0]) rfl ⟨pp,by rw [hdE],by rw [hdE],hp.made (List.Sublist.cons _ (List.Sublist.cons _ (List.Sublist.cons _ (List.Sublist.refl _))))⟩
   ·rw [if_neg hpe] at hrdone
    have hdE:decE D=([],3):=by
     rw [hDe]
     unfold decE
     dsimp only
     rw [if_neg (fun e=>hpe (by have:=congrArg List.length e;rw [List.length_drop] at this;simp at this;omega))]
    ((conv=>whnf);repeat' ((first|((with_reducible apply br_id);first|((with_reducible refine br_dec (fun hx=>?_) (fun hx=>?_))<;>(try (exfalso;first|omega|contradiction)))|((with_reducible refine br_ne (fun hx=>?_) (fun hx=>?_))<;>(try (exfalso;first|omega|contradiction))))|((with_reducible apply cn_id);refine cn rfl ?_)|((with_reducible apply ldn_id);apply lda_hs hp;(focus repeat' constructor);exact rfl)|((with_reducible apply st_id);apply sta_hs hp;(focus repeat' constructor);exact rfl;exact rfl;clear hp;intro w hp;(try dsimp only [List.set] at hp))|((with_reducible apply gen_id);apply gen_build;exact rfl;exact rfl)|((with_reducible apply cl_id);(refine cl_eq ((hrdone hp (List.mem_cons_self ..))) rfl rfl ?_;rintro e w ⟨rfl,hcc⟩;replace hp:=hp.call0 hcc;refine ⟨_,rfl,?_⟩)))<;>(conv=>whnf)))
    refine ps_val (v':= .tuple #[Payload.pv Sl.nil,i64 3]) rfl ⟨Sl.nil,by rw [hdE];rfl,by rw [hdE],payNil_made hp.chg⟩
set_option maxHeartbeats 500000
abbrev fnV (pr:Nat):Value:= .func (.func 63) #[] #[ptr pr]
abbrev fkV (pr:Nat):Value:= .func (.func 65) #[] #[ptr pr]
structure RdX (pr pn pk b p:Nat) (q:Sl UInt8) (f:Flt) (w:World):Prop where
 ok:(star (rdRs b q p f)).ok w
 cr:w.cell? ⟨pr,0,none⟩=some (ptr b)
 cn:w.cell? ⟨pn,0,none⟩=some (fnV pr)
 ck:w.cell? ⟨pk,0,none⟩=some (fkV pr)
 outr:¬(star (rdRs b q p f)).dom pr
 outn:¬(star (rdRs b q p f)).dom pn
 outk:¬(star (rdRs b q p f)).dom pk
section
variable {pr pn pk b p : Nat} {q : Sl UInt8} {f : Flt} {s : Rst} {w0 : World}
theorem RdX.via {p':Nat} {f':Flt} {w:World} {rs:List Res} (h:RdX pr pn pk b p q f w0) (hp:Hp (star (rdRs b q p f)).dom w0 w rs) (hr:star (rdRs b q p' f')∈rs):RdX pr pn pk b p' q f' w:=
 have out:∀{k o:Nat} {v:Value},w0.cell? ⟨k,o,none⟩=some v→¬(star (rdRs b q p f)).dom k→¬(star (rdRs b q p' f')).dom k:=fun hc hk hd=>by
  rcases hp.own _ hr _ hd with g|g
  ·exact hk g
  ·have h1:=cell_lt hc
   dsimp only at h1
   omega
 ⟨hp.ok _ hr,hp.chg.cell h.cr h.outr,hp.chg.cell h.cn h.outn,hp.chg.cell h.ck h.outk,out h.cr h.outr,out h.cn h.outn,out h.ck h.outk⟩
theorem cd1_any (hI:RdI q.l p (badE f) s) (hq:q.l.length≤1000000) (h:RdX pr pn pk b p q f w0):Calls Tryz.prog 63 #[ptr pr] w0 fun e w'=>
  ∃(x:UInt32) (p':Nat) (f':Flt),Rv (rdR u32C.dec s) x∧RdI q.l p' (badE f') (lft (rdR u32C.dec s))∧e= .returned (u32 x)∧Mut (star (rdRs b q p f)) (star (rdRs b q p' f')) w0 w':=by
 have hp:=Hp.start1 h.ok
 refine calls_x (args:= [_]) tabOk Tryz.func63 Tryz.ntmps63 Tryz.results63 rfl (Nat.le_of_ble_eq_true rfl) ?_
 ((conv=>whnf);repeat' (((with_reducible apply ld_id);(refine ld_of (hp.chg.cell h.cr h.outr) ?_))<;>(conv=>whnf)))
 refine cl_eq (rnumI_any 4 N4 (fun _=>rfl) (by omega) hI hq (hp.get (j:=0) rfl)) rfl rfl ?_
 rintro r w ⟨N,p1,f1,hv,h256,hI1,rfl,hm⟩
 replace hp:=hp.via (j:=0) rfl hm
 dsimp only [List.set] at hp
 clear hm
 refine ⟨_,rfl,?_⟩
 have h32:N < 4294967296:=h256
 have hv:Rv (rdR u32C.dec s) (UInt32.ofNat N):=rv_map hv
 have hl:lft (rdR u32C.dec s)=lft (rdR N4.dec s):=lft_map
 rw [←hl] at hI1
 obtain ⟨x,hx,hxN⟩:∃x:UInt32,x=UInt32.ofNat N∧(N:Int)=(x.toNat:Int):=⟨_,rfl,by rw [UInt32.toNat_ofNat_of_lt' (by simpa using h32)]⟩
 rw [←hx] at hv
 ((conv=>whnf);repeat' (((with_reducible apply ar_id);(refine ar_u32 (by omega) ?_))<;>(conv=>whnf)))
 rw [hxN]
 exact ps_val (v':=u32 x) rfl ⟨x,p1,f1,hv,hI1,rfl,hp.shut1 (j:=0) rfl⟩
theorem cd2_any (hI:RdI q.l p (badE f) s) (hq:q.l.length≤1000000) (h:RdX pr pn pk b p q f w0):Calls Tryz.prog 65 #[ptr pr] w0 fun e w'=>
  ∃(x:Sl UInt8) (p':Nat) (f':Flt),Rv (rdR (bytC N2).dec s) x.l∧x.l.length≤65535∧RdI q.l p' (badE f') (lft (rdR (bytC N2).dec s))∧e= .returned x.v∧Mut (star (rdRs b q p f)) (star (rowR 5 1 u8L x::rdRs b q p' f')) w0 w':=by
 have hp:=Hp.start1 h.ok
 refine calls_x (args:= [_]) tabOk Tryz.func65 Tryz.ntmps65 Tryz.results65 rfl (Nat.le_of_ble_eq_true rfl) ?_
 ((conv=>whnf))
 refine dr_autoi [0,1] (fun w=>w.cell? ⟨pr,0,none⟩=some (ptr b)) tabOk (by kernel_rfl) (by decide+kernel) rfl (hp.drew.chg.cell h.cr h.outr) ?_
 replace hp:=hp.drew
 ((conv=>whnf);repeat' (((with_reducible apply li_id);(refine li_of (fun w h=>h) ?_))<;>(conv=>whnf)))
 refine cl_eq (rnumI_any 2 N2 (fun _=>rfl) (by omega) hI hq (hp.get (j:=0) rfl)) rfl rfl ?_
 rintro r w ⟨N,p1,f1,hv,h256,hI1,rfl,hm⟩
 replace hp:=hp.via (j:=0) rfl hm
 dsimp only [List.set] at hp
 clear hm
 refine ⟨_,rfl,?_⟩
 refine cn (hp.chg.cell h.cr h.outr) ?_
 have h64:N < 65536:=h256
 ((conv=>whnf);repeat' ((first|((with_reducible apply ar_id);refine ar_i64 (by omega) ?_)|((with_reducible apply cn_id);(refine cn (hp.chg.cell h.cr h.outr) ?_)))<;>(conv=>whnf)))
 refine cl_eq (rbytesI_any N (by omega) hI1 hq (hp.get (j:=0) rfl)) rfl rfl ?_
 rintro r w ⟨x,p2,f2,hv2,hx2,hI2,rfl,hm⟩
 replace hp:=hp.via (j:=0) rfl hm
 dsimp only [List.set] at hp
 clear hm
 refine ⟨_,rfl,?_⟩
 have hv3:Rv (rdR (bytC N2).dec s) x.l:=rv_byt hv hv2
 rw [←lft_byt hv] at hI2
 ((conv=>whnf);repeat' (((with_reducible apply cn_id);(refine cn (hp.chg.cell h.cr h.outr) ?_))<;>(conv=>whnf)))
 exact ps_val (v':=x.v) rfl ⟨x,p2,f2,hv3,by omega,hI2,rfl,hp.shut1 (j:=0) rfl⟩
end
theorem fld_bad {s:Rst} {e:Int} (h:cod s≠0):fld s e=s:=by
 cases s with
 |error e'=>rfl
 |ok l=>exact absurd rfl h
theorem rv_pckbad {α:Type} {N:Cdc Nat} {F:Ful2 α} {s:Rst} {x:α} (h:cod (lft (rdR (bytC N).dec s))≠0):Rv (rdR (pckC N F).dec s) x:=fun a r he=>by
 cases s with
 |error e=>cases he
 |ok l=>
  have he:(match (bytC N).dec l with| .error e=>.error e| .ok (b,r)=>match F.dec b with| .error e=>.error e| .ok a=>.ok (a,r))=Except.ok (a,r):=he
  have h:cod (lft ((bytC N).dec l))≠0:=h
  cases hd:(bytC N).dec l with
  |error e=>rw [hd] at he;cases he
  |ok u=>rw [hd] at h;exact absurd rfl h
theorem cod_if {α:Type} {c:Int} {a:α}:cod (if c=0 then .ok a else .error c)=c:=by
 split
 ·rename_i h
  exact h.symm
 ·rfl
theorem Hp.give {R L:List Res} {a:Res} {w0 w:World} (h:Hp (star R).dom w0 w [a,star L]):Mut (star R) (star (a::L)) w0 w:=by
 have h2:=((h.perm (.swap ..)).unfold).perm (List.perm_append_singleton _ _)
 exact h2.shut (.refl _)
section
variable {pr pn pk b p : Nat} {q : Sl UInt8} {f : Flt} {s : Rst} {w0 : World}
theorem cd3_any (hI:RdI q.l p (badE f) s) (hq:q.l.length≤1000000) (h:RdX pr pn pk b p q f w0):Calls Tryz.prog 68 #[ptr pk,ptr pr] w0 fun e w'=>
  ∃(x:Blk) (p':Nat) (f':Flt),Rv (rdR (pckC N2 blkF).dec s) x.p∧x.tx.l.length≤32∧RdI q.l p' (badE f') (lft (rdR (pckC N2 blkF).dec s))∧e= .returned x.v∧Mut (star (rdRs b q p f)) (star (btxR x::rdRs b q p' f')) w0 w':=by
 have hp:=Hp.start1 h.ok
 refine calls_x (args:= [_,_]) tabOk Tryz.func68 Tryz.ntmps68 Tryz.results68 rfl (Nat.le_of_ble_eq_true rfl) ?_
 ((conv=>whnf);repeat' ((first|((with_reducible apply ld_id);(refine ld_of (hp.chg.cell h.ck h.outk) ?_))|((with_reducible apply al_id);refine al_cel hp ?_;clear hp;intro bb w hp))<;>(conv=>whnf)))
 refine cl_eq (cd2_any hI hq (h.via hp (by simp))) rfl rfl ?_
 rintro r w ⟨xb,p1,f1,hv1,hx1,hI1,rfl,hm⟩
 replace hp:=hp.via (j:=1) rfl hm
 dsimp only [List.set] at hp
 clear hm
 refine ⟨_,rfl,?_⟩
 replace hp:=(hp.perm (.swap ..)).split1
 have he1:=fun {w:World} (hc:(star (rdRs b q p1 f1)).ok w)=>rerrI_any hI1 hc
 have hlp:=lft_pck (F:=blkF) hv1
 ((conv=>whnf);repeat' ((first|((with_reducible apply br_id);(with_reducible refine br_ne (fun hx=>?_) (fun hx=>?_))<;>(try (exfalso;first|omega|contradiction)))|((with_reducible apply cn_id);refine cn rfl ?_)|((with_reducible apply ld_id);(refine ld_of (hp.chg.cell h.cr h.outr) ?_))|((with_reducible apply ldn_id);apply lda_hs hp;(focus repeat' constructor);exact rfl)|((with_reducible apply st_id);apply sta_hs hp;(focus repeat' constructor);exact rfl;exact rfl;clear hp;intro w hp;(try dsimp only [List.set] at hp))|((with_reducible apply gen_id);apply gen_build;exact rfl;exact rfl)|((with_reducible apply cl_id);(refine cl_eq ((he1 (hp.get (j:=1) rfl))) rfl rfl ?_;rintro e w ⟨rfl,hcc⟩;replace hp:=hp.call0 hcc;refine ⟨_,rfl,?_⟩)))<;>(conv=>whnf)))
 ·rename_i hx _ _
  exact ps_val (v':=blkZ.v) rfl ⟨blkZ,p1,f1,rv_pckbad hx,Nat.zero_le _,by rw [hlp,fld_bad hx];exact hI1,rfl,((hp.nilRow 48 32 Id.c).pick [0,2] (by decide) rfl).give⟩
 ·refine cl_eq (bdec_any (hp.row (j:=0) rfl) (by omega)) rfl rfl ?_
  rintro r w ⟨x,c,rfl,hx32,hm,hc,hd⟩
  replace hp:=hp.add hm
  clear hm
  refine ⟨_,rfl,?_⟩
  rw [hd,cod_if] at hlp
  ((conv=>whnf);repeat' ((first|((with_reducible apply cn_id);refine cn rfl ?_)|((with_reducible apply ld_id);(refine ld_of (hp.chg.cell h.cr h.outr) ?_))|((with_reducible apply al_id);refine al_cel hp ?_;clear hp;intro bb w hp)|((with_reducible apply st_id);apply sta_hs hp;(focus repeat' constructor);exact rfl;exact rfl;clear hp;intro w hp;(try dsimp only [List.set] at hp)))<;>(conv=>whnf)))
  refine cl_eq (rfailI_any c hc hI1 (hp.get (j:=3) rfl)) rfl rfl ?_
  rintro r w ⟨f2,hI2,rfl,hm⟩
  replace hp:=hp.via (j:=3) rfl hm
  dsimp only [List.set] at hp
  clear hm
  refine ⟨_,rfl,?_⟩
  rw [←hlp] at hI2
  have hv2:Rv (rdR (pckC N2 blkF).dec s) x.p:=rv_pck hv1 fun a ha=>by
   rw [hd] at ha
   split at ha
   ·cases ha
    rfl
   ·cases ha
  ((conv=>whnf);repeat' ((first|((with_reducible apply cn_id);refine cn rfl ?_)|((with_reducible apply ldn_id);apply lda_hs hp;(focus repeat' constructor);exact rfl)|((with_reducible apply st_id);apply sta_hs hp;(focus repeat' constructor);exact rfl;exact rfl;clear hp;intro w hp;(try dsimp only [List.set] at hp)))<;>(conv=>whnf)))
  exact ps_val (v':=x.v) rfl ⟨x,p1,f2,hv2,hx32,hI2,rfl,(hp.pick [1,3] (by decide) rfl).give⟩
theorem cd4_any (hI:RdI q.l p (badE f) s) (hq:q.l.length≤1000000) (h:RdX pr pn pk b p q f w0):Calls Tryz.prog 73 #[ptr pn] w0 fun e w'=>
  ∃(x:Sess) (p':Nat) (f':Flt),Rv (rdR sesC.dec s) x∧RdI q.l p' (badE f') (lft (rdR sesC.dec s))∧e= .returned x.v∧Mut (star (rdRs b q p f)) (star (rdRs b q p' f')) w0 w':=by
 have hp:=Hp.start1 h.ok
 refine calls_x (args:= [_]) tabOk Tryz.func73 Tryz.ntmps73 Tryz.results73 rfl (Nat.le_of_ble_eq_true rfl) ?_
 ((conv=>whnf);repeat' (((with_reducible apply al_id);refine al_cel hp ?_;clear hp;intro bb w hp)<;>(conv=>whnf)))
 refine dr_autoi [0,2,4,6] (fun w=>w.cell? ⟨pn,0,none⟩=some (fnV pr)) tabOk (by kernel_rfl) (by decide+kernel) rfl (hp.drew.chg.cell h.cn h.outn) ?_
 replace hp:=hp.drew
 ((conv=>whnf);repeat' (((with_reducible apply li_id);(refine li_of (fun w h=>h) ?_))<;>(conv=>whnf)))
 refine cl_eq (cd1_any hI hq (h.via hp (by simp))) rfl rfl ?_
 rintro r w ⟨x1,p1,f1,hv1,hI1,rfl,hm⟩
 replace hp:=hp.via (j:=1) rfl hm
 dsimp only [List.set] at hp
 clear hm
 refine ⟨_,rfl,?_⟩
 refine cn (hp.chg.cell h.cn h.outn) ?_
 ((conv=>whnf))
 refine cl_eq (cd1_any hI1 hq (h.via hp (by simp))) rfl rfl ?_
 rintro r w ⟨x2,p2,f2,hv2,hI2,rfl,hm⟩
 replace hp:=hp.via (j:=1) rfl hm
 dsimp only [List.set] at hp
 clear hm
 refine ⟨_,rfl,?_⟩
 refine cn (hp.chg.cell h.cn h.outn) ?_
 ((conv=>whnf))
 refine cl_eq (cd1_any hI2 hq (h.via hp (by simp))) rfl rfl ?_
 rintro r w ⟨x3,p3,f3,hv3,hI3,rfl,hm⟩
 replace hp:=hp.via (j:=1) rfl hm
 dsimp only [List.set] at hp
 clear hm
 refine ⟨_,rfl,?_⟩
 refine cn (hp.chg.cell h.cn h.outn) ?_
 ((conv=>whnf))
 refine cl_eq (cd1_any hI3 hq (h.via hp (by simp))) rfl rfl ?_
 rintro r w ⟨x4,p4,f4,hv4,hI4,rfl,hm⟩
 replace hp:=hp.via (j:=1) rfl hm
 dsimp only [List.set] at hp
 clear hm
 refine ⟨_,rfl,?_⟩
 refine cn (hp.chg.cell h.cn h.outn) ?_
 ((conv=>whnf);repeat' ((first|((with_reducible apply cn_id);first|(refine cn (hp.chg.cell h.cn h.outn) ?_)|refine cn rfl ?_)|((with_reducible apply ldn_id);apply lda_hs hp;(focus repeat' constructor);exact rfl)|((with_reducible apply st_id);apply sta_hs hp;(focus repeat' constructor);exact rfl;exact rfl;clear hp;intro w hp;(try dsimp only [List.set] at hp))|((with_reducible apply gen_id);apply gen_build;exact rfl;exact rfl))<;>(conv=>whnf)))
 have hv:Rv (rdR sesC.dec s) ⟨x1,x2,x3,x4⟩:=rv_map (rv_seq hv1 (rv_seq hv2 (rv_seq hv3 hv4)))
 have hl:lft (rdR sesC.dec s)=_:=lft_map.trans (lft_seq.trans (lft_seq.trans lft_seq))
 rw [←hl] at hI4
 exact ps_val (v':=Sess.v ⟨x1,x2,x3,x4⟩) rfl ⟨⟨x1,x2,x3,x4⟩,p4,f4,hv,hI4,rfl,hp.shut1 (j:=1) rfl⟩
end
end Go.Proofs.YtpbapnlnheahnaaGreatDoor
