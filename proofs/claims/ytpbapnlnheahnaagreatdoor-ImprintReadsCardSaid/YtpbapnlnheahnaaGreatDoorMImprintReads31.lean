/- MImprintReads31: parts of the proof of ImprintReads: DecodeR, Rdr1. No condition of their own. -/
import Derived.Test.YtpbapnlnheahnaaGreatDoorMImprintReads13
import Derived.Test.YtpbapnlnheahnaaGreatDoorMImprintReads16
import Derived.Test.YtpbapnlnheahnaaGreatDoorMImprintReads20
import Derived.Test.YtpbapnlnheahnaaGreatDoorMImprintReads30
set_option linter.unusedSimpArgs false
set_option linter.unusedVariables false
namespace Go.Proofs.YtpbapnlnheahnaaGreatDoor
open Go.RowKit Go.Stop
set_option maxRecDepth 100000
set_option maxHeartbeats 2000000
theorem rd_cutb {α:Type} {P:Program} {w:World} {ρ:Operand→Value} {o:Oper} {g:Value→Prop} {t e:TypeId} {sz bytes:Nat} {x lo hi:Operand} (hop:o.op= .slice t x (some lo) (some hi) none) (hE:ElT P t e sz bytes) (s:Sl α) (hx:ρ x=s.v) (hc:s.l.length≤s.c) {k k':IntKind} {m m':Int} (hl:ρ lo= .int k m) (hh:ρ hi= .int k' m')
  {l h:Nat} (hm:m=l) (hm':m'=h) (h1:l≤h) (h2:h≤s.l.length) (hk:g (s.cut sz l h).v):Rd P ρ o w g:=by
 subst hm hm'
 obtain ⟨ht,i,z,hi',_,hs,_⟩:=hE
 exact ⟨_,fun w' _=>run_cut hop ht ⟨i,hi',hs⟩ s hx hc ⟨k,hl⟩ ⟨k',hh⟩ h1 h2,hk⟩
theorem cut_l (s:Sl UInt8) (l h:Nat):(s.cut 1 l h).l=(s.l.take h).drop l:=rfl
theorem ar_eq32 {A B:Int} {f:Int→Prop} (h:A=B) (hB:0≤B∧B≤4294967295) (hk:f B):Ar .u32 A f:=by
 subst h
 exact ar_u32 hB hk
def dec2 (fee:UInt32):List UInt8→Except Int (TkV×List UInt8)
 | []=>.error 2
 |n::r=>if n.toNat < 1∨64 < n.toNat then .error 4 else if r.length < n.toNat then .error 2 else .ok ((fee,r.take n.toNat),r.drop n.toNat)
theorem dec2_cons (fee:UInt32) (n:UInt8) (r:List UInt8):dec2 fee (n::r)=if n.toNat < 1∨64 < n.toNat then .error 4 else if r.length < n.toNat then .error 2 else .ok ((fee,r.take n.toNat),r.drop n.toNat):=rfl
theorem dec1_cons (x0 x1 x2 x3:UInt8) (rest:List UInt8) (ts:List TkV):dec1 (x0::x1::x2::x3::rest) ts=if notUp ts (feeOf (x0::x1::x2::x3::rest))=true then .error 4 else dec2 (feeOf (x0::x1::x2::x3::rest)) rest:=by
 unfold dec1
 rw [if_neg (by simp)]
 cases rest<;>rfl
theorem rdecode_any {B:Nat} {w0:World} {s:Sl UInt8} (h:SlAt B w0 u8L 1 s) (hBw:B≤w0.heap.size) (hn:s.l.length≤1000000):Calls Tryz.prog 89 #[s.v] w0 fun e w'=>∃r:Payload,r.l.map tk=(dec s.l).1∧e= .returned (.tuple #[r.pv,i64 (dec s.l).2])∧Made (star (payRs r)) w0 w':=by
 have hp:=Hp.start (S:=N0) w0
 have hB:∀b,N0 b→B≤b:=fun _ hh=>hh.elim
 have u1:=Tryz.underlying55
 have u2:=Tryz.underlying34
 rcases hs:s.l with _|⟨x,r⟩
 ·have hl0:s.l.length=0:=by rw [hs];rfl
  refine calls_x (args:= [_]) tabOk Tryz.func89 Tryz.ntmps89 Tryz.results89 rfl (Nat.le_of_ble_eq_true rfl) ?_
  ((conv=>whnf);repeat' ((first|((with_reducible apply br_id);(with_reducible refine br_dec (fun hx=>?_) (fun hx=>?_))<;>(try (exfalso;first|omega|contradiction)))|((with_reducible apply cn_id);refine cn rfl ?_)|((with_reducible apply ldn_id);apply lda_hs hp;(focus repeat' constructor);exact rfl)|((with_reducible apply al_id);refine al_cel hp ?_;clear hp;intro bb w hp)|((with_reducible apply st_id);apply sta_hs hp;(focus repeat' constructor);exact rfl;exact rfl;clear hp;intro w hp;(try dsimp only [List.set] at hp))|((with_reducible apply gen_id);first|(apply gen_build;exact rfl;exact rfl)|(apply gen_len;exact rfl;exact rfl;assumption)))<;>(conv=>whnf)))
  exact ps_val (v':= .tuple #[Payload.pv Sl.nil,i64 2]) rfl ⟨Sl.nil,rfl,rfl,payNil_made hp.chg⟩
 have hl1:s.l.length=r.length+1:=by rw [hs];rfl
 obtain ⟨bA,oA,x',hA,hb,hrow,hxx⟩:=h.has (i:=0) (by omega)
 obtain rfl:x'=x:=by rw [hs] at hxx;simpa using hxx.symm
 have hx8:=x'.toNat_lt
 by_cases hm:x'.toNat < 1∨8 < x'.toNat
 ·have hd:dec (x'::r)=([],4):=if_pos hm
  rw [hd]
  refine calls_x (args:= [_]) tabOk Tryz.func89 Tryz.ntmps89 Tryz.results89 rfl (Nat.le_of_ble_eq_true rfl) ?_
  ((conv=>whnf);repeat' ((first|((with_reducible apply br_id);first|with_reducible refine br_t ?_|with_reducible refine br_f ?_|((with_reducible refine br_dec (fun hx=>?_) (fun hx=>?_))<;>(try (exfalso;first|omega|contradiction))))|((with_reducible apply ar_id);refine ar_i64 (by omega) ?_)|((with_reducible apply cn_id);refine cn rfl ?_)|((with_reducible apply ld_id);(refine ld_row0 hp hB ‹_› ‹_› _ rfl ‹_› (by rfl) ?_))|((with_reducible apply ldn_id);apply lda_hs hp;(focus repeat' constructor);exact rfl)|((with_reducible apply al_id);refine al_cel hp ?_;clear hp;intro bb w hp)|((with_reducible apply st_id);apply sta_hs hp;(focus repeat' constructor);exact rfl;exact rfl;clear hp;intro w hp;(try dsimp only [List.set] at hp))|((with_reducible apply gen_id);first|(refine gen_ixs rfl rfl ‹_› rfl rfl (by omega) ?_)|(apply gen_build;exact rfl;exact rfl)|(apply gen_len;exact rfl;exact rfl;assumption)))<;>(conv=>whnf)))
  all_goals exact ps_val (v':= .tuple #[Payload.pv Sl.nil,i64 4]) rfl ⟨Sl.nil,rfl,rfl,payNil_made hp.chg⟩
 have hd:dec (x'::r)=decE (decA x'.toNat r []):=if_neg hm
 rw [hd]
 obtain ⟨m,hmm⟩:∃m,x'.toNat=m:=⟨_,rfl⟩
 obtain ⟨D,hD⟩:∃D,decA m r []=D:=⟨_,rfl⟩
 refine calls_x (args:= [_]) tabOk Tryz.func89 Tryz.ntmps89 Tryz.results89 rfl (Nat.le_of_ble_eq_true rfl) ?_
 ((conv=>whnf);repeat' ((first|((with_reducible apply br_id);first|with_reducible refine br_f ?_|((with_reducible refine br_dec (fun hx=>?_) (fun hx=>?_))<;>(try (exfalso;first|omega|contradiction))))|((with_reducible apply ar_id);refine ar_i64 (by omega) ?_)|((with_reducible apply cn_id);refine cn rfl ?_)|((with_reducible apply ld_id);(refine ld_row0 hp hB ‹_› ‹_› _ rfl ‹_› (by rfl) ?_))|((with_reducible apply al_id);refine al_cel hp ?_;clear hp;intro bb w hp)|((with_reducible apply st_id);apply sta_hs hp;(focus repeat' constructor);exact rfl;exact rfl;clear hp;intro w hp;(try dsimp only [List.set] at hp))|((with_reducible apply gen_id);first|(refine gen_ixs rfl rfl ‹_› rfl rfl (by omega) ?_)|(refine gen_cutl rfl el_u8 s rfl (h.keep hp.chg hB) rfl (l:=1) rfl (by omega) ?_)|(apply gen_build;exact rfl;exact rfl)|(apply gen_len;exact rfl;exact rfl;assumption)))<;>(conv=>whnf)))
 rw [hmm] at hm ⊢
 rw [hD]
 obtain ⟨b6,hb6⟩:∃b,b=bb:=⟨_,rfl⟩
 subst hb6
 obtain ⟨b4,hb4⟩:∃b,b=bb:=⟨_,rfl⟩
 subst hb4
 obtain ⟨b2,hb2⟩:∃b,b=bb:=⟨_,rfl⟩
 subst hb2
 have hp0:Hp N0 w0 w (cel b6 57 #[(Sl.nil:Payload).v]::cel b4 57 #[(Sl.nil:Payload).v]::cel b2 57 #[(Sl.nil:Payload).v]::payRs Sl.nil):=by
  have h1:=hp.new (Chg.refl _ _) (r:=rowR 88 2 Tier.c Sl.nil) (rowR_ok.2 ⟨World.ownsRow_nil w 0 _ _,by simp [Sl.nil]⟩) fun b hb=>by have h1:=rowR_dom.1 hb;cases h1
  exact h1.perm (List.perm_append_singleton _ [_,_,_]).symm
 clear hp
 have hpart:Part s (s.cut 1 1 s.l.length) 1 (0+1):=(Part.start h).cut h.le (by omega)
 have hD0:decA (m - 0) (s.cut 1 1 s.l.length).l ((Sl.nil:Payload).l.map tk)=D:=by
  rw [cut_l,List.take_length,hs]
  exact hD
 refine lp_inv (α:=Nat×Payload×Sl UInt8×Nat) (fun a=> [(0,a.2.2.1.v),(2,ptr b2),(4,ptr b4),(5,i64 m),(6,ptr b6),(7,i64 a.1)]) (fun a w=>a.1≤m∧a.2.1.l.length=a.1∧Part s a.2.2.1 1 a.2.2.2∧decA (m - a.1) a.2.2.1.l (a.2.1.l.map tk)=D∧Hp N0 w0 w (cel b6 57 #[a.2.1.v]::cel b4 57 #[(Sl.nil:Payload).v]::cel b2 57 #[(Sl.nil:Payload).v]::payRs a.2.1)) (fun a=>m - a.1) (0,Sl.nil,s.cut 1 1 s.l.length,0+1) (by (repeat' (first|exact trivial|(refine ⟨rfl,?_⟩)))) ⟨by omega,rfl,hpart,hD0,hp0⟩ ?_
 clear hp0 hpart hD0 hd hmm hD hb hrow hxx hA hx8 hs
 rintro ⟨i,pp,cur,lo⟩ e0 w ⟨hi,hpl,hpart,hDD,hp⟩
 dsimp only at hi hpl hpart hDD hp ⊢
 have hcat:=hpart.slat h
 have hcl:cur.l.length≤1000000:=by rw [hpart.l,List.length_drop];omega
 rcases Nat.lt_or_ge i m with hlt|hge
 ·obtain ⟨k0,hk0⟩:∃k,m - i=k+1:=⟨m - i - 1,by omega⟩
  have hstep:decA (m - i) cur.l (pp.l.map tk)=match dec1 cur.l (pp.l.map tk) with
   | .error e=>.error e
   | .ok (t,r)=>decA (m - (i+1)) r (pp.l.map tk++ [t]):=by
   rw [hk0,show m - (i+1)=k0 by omega]
   rfl
  rw [hDD] at hstep
  by_cases h4:cur.l.length < 4
  ·have hDe:decE D=([],2):=by
    rw [hstep]
    unfold dec1
    rw [if_pos h4]
    rfl
   ((conv=>whnf);repeat' ((first|((with_reducible apply br_id);(with_reducible refine br_dec (fun hx=>?_) (fun hx=>?_))<;>(try (exfalso;first|omega|contradiction)))|((with_reducible apply cn_id);refine cn rfl ?_)|((with_reducible apply ldn_id);apply lda_hs hp;(focus repeat' constructor);exact rfl)|((with_reducible apply st_id);apply sta_hs hp;(focus repeat' constructor);exact rfl;exact rfl;clear hp;intro w hp;(try dsimp only [List.set] at hp))|((with_reducible apply gen_id);apply gen_len;exact rfl;exact rfl;assumption))<;>(conv=>whnf)))
   exact ps_val (v':= .tuple #[Payload.pv Sl.nil,i64 2]) rfl ⟨Sl.nil,by rw [hDe];rfl,by rw [hDe],payNil_made hp.chg⟩
  obtain ⟨x0,x1,x2,x3,rest,hcx⟩:∃x0 x1 x2 x3 rest,cur.l=x0::x1::x2::x3::rest:=by
   rcases hcc:cur.l with _|⟨x0,_|⟨x1,_|⟨x2,_|⟨x3,rest⟩⟩⟩⟩
   ·rw [hcc] at h4;simp at h4
   ·rw [hcc] at h4;simp at h4
   ·rw [hcc] at h4;simp at h4
   ·rw [hcc] at h4;simp at h4
   ·exact ⟨x0,x1,x2,x3,rest,rfl⟩
  obtain ⟨bA,oA,x0',hA,hb,hrow,hx0⟩:=hcat.has (i:=0) (by omega)
  obtain rfl:x0'=x0:=by rw [hcx] at hx0;simpa using hx0.symm
  have hx1:cur.l[1]? =some x1:=by rw [hcx];rfl
  have hx2:cur.l[2]? =some x2:=by rw [hcx];rfl
  have hx3:cur.l[3]? =some x3:=by rw [hcx];rfl
  have l0:=x0'.toNat_lt
  have l1:=x1.toNat_lt
  have l2:=x2.toNat_lt
  have l3:=x3.toNat_lt
  obtain ⟨fee,hfee⟩:∃fee,feeOf cur.l=fee:=⟨_,rfl⟩
  have hfI:(x0'.toNat:Int)*16777216+x1.toNat*65536+x2.toNat*256+x3.toNat=(fee.toNat:Int):=by
   rw [←hfee]
   unfold feeOf
   rw [hcx]
   have:numV ((x0'::x1::x2::x3::rest).take 4)=((x0'.toNat*256+x1.toNat)*256+x2.toNat)*256+x3.toNat:=by simp [numV]
   rw [this]
   simp
   omega
  have hd1:dec1 cur.l (pp.l.map tk)=if notUp (pp.l.map tk) fee=true then .error 4 else dec2 fee rest:=by
   rw [←hfee,hcx]
   exact dec1_cons _ _ _ _ _ _
  rw [hd1] at hstep
  clear hd1 hDD
  rcases Nat.eq_zero_or_pos i with h0|h0
  ·have hnu:notUp (pp.l.map tk) fee=false:=by
    have:pp.l= []:=List.eq_nil_of_length_eq_zero (by omega)
    rw [this]
    rfl
   rw [hnu,if_neg (by simp)] at hstep
   rcases hr:rest with _|⟨nb,r'⟩
   ·have hDe:decE D=([],2):=by rw [hstep,hr];rfl
    have hlen:cur.l.length=4:=by rw [hcx,hr];rfl
    ((conv=>whnf);repeat' ((first|((with_reducible apply br_id);first|with_reducible refine br_f ?_|((with_reducible refine br_dec (fun hx=>?_) (fun hx=>?_))<;>(try (exfalso;first|omega|contradiction))))|((with_reducible apply ar_id);first|(with_reducible refine ar_eq32 hfI (by omega) ?_)|refine ar_u32 (by omega) ?_)|((with_reducible apply cn_id);refine cn rfl ?_)|((with_reducible apply ld_id);(refine ld_row0 hp hB ‹_› ‹_› _ rfl ‹_› (by rfl) ?_))|((with_reducible apply ldn_id);apply lda_hs hp;(focus repeat' constructor);exact rfl)|((with_reducible apply st_id);apply sta_hs hp;(focus repeat' constructor);exact rfl;exact rfl;clear hp;intro w hp;(try dsimp only [List.set] at hp))|((with_reducible apply gen_id);apply gen_len;exact rfl;exact rfl;assumption)|((with_reducible apply dr_id);refine dr_auto tabOk (by kernel_rfl) (by decide+kernel) ?_;(try replace hp:=hp.drew))|((with_reducible apply rd_id);first|(refine rd_ixs rfl rfl ‹_› rfl rfl (by omega) ?_)|(refine rd_conv tabOk rfl rfl rfl rfl ?_)))<;>(conv=>whnf)))
    exact ps_val (v':= .tuple #[Payload.pv Sl.nil,i64 2]) rfl ⟨Sl.nil,by rw [hDe];rfl,by rw [hDe],payNil_made hp.chg⟩
   ·have hx4:cur.l[4]? =some nb:=by rw [hcx,hr];rfl
    have hlen:cur.l.length=r'.length+5:=by rw [hcx,hr];rfl
    have l4:=nb.toNat_lt
    rw [hr] at hstep
    by_cases hb1:nb.toNat < 1∨64 < nb.toNat
    ·have hDe:decE D=([],4):=by rw [hstep,dec2_cons,if_pos hb1];rfl
     ((conv=>whnf);repeat' ((first|((with_reducible apply br_id);first|with_reducible refine br_t ?_|with_reducible refine br_f ?_|((with_reducible refine br_dec (fun hx=>?_) (fun hx=>?_))<;>(try (exfalso;first|omega|contradiction))))|((with_reducible apply ar_id);first|(with_reducible refine ar_eq32 hfI (by omega) ?_)|refine ar_i64 (by omega) ?_|refine ar_u32 (by omega) ?_)|((with_reducible apply cn_id);refine cn rfl ?_)|((with_reducible apply ld_id);(refine ld_row0 hp hB ‹_› ‹_› _ rfl ‹_› (by rfl) ?_))|((with_reducible apply ldn_id);apply lda_hs hp;(focus repeat' constructor);exact rfl)|((with_reducible apply st_id);apply sta_hs hp;(focus repeat' constructor);exact rfl;exact rfl;clear hp;intro w hp;(try dsimp only [List.set] at hp))|((with_reducible apply gen_id);first|(refine gen_ixs rfl rfl ‹_› rfl rfl (by omega) ?_)|(apply gen_len;exact rfl;exact rfl;assumption))|((with_reducible apply dr_id);refine dr_auto tabOk (by kernel_rfl) (by decide+kernel) ?_;(try replace hp:=hp.drew))|((with_reducible apply rd_id);first|(refine rd_ixs rfl rfl ‹_› rfl rfl (by omega) ?_)|(refine rd_conv tabOk rfl rfl rfl rfl ?_)))<;>(conv=>whnf)))
     all_goals exact ps_val (v':= .tuple #[Payload.pv Sl.nil,i64 4]) rfl ⟨Sl.nil,by rw [hDe];rfl,by rw [hDe],payNil_made hp.chg⟩
    by_cases hb2:r'.length < nb.toNat
    ·have hDe:decE D=([],2):=by rw [hstep,dec2_cons,if_neg hb1,if_pos hb2];rfl
     ((conv=>whnf);repeat' ((first|((with_reducible apply br_id);first|with_reducible refine br_f ?_|((with_reducible refine br_dec (fun hx=>?_) (fun hx=>?_))<;>(try (exfalso;first|omega|contradiction))))|((with_reducible apply ar_id);first|(with_reducible refine ar_eq32 hfI (by omega) ?_)|refine ar_i64 (by omega) ?_|refine ar_u32 (by omega) ?_)|((with_reducible apply cn_id);refine cn rfl ?_)|((with_reducible apply ld_id);(refine ld_row0 hp hB ‹_› ‹_› _ rfl ‹_› (by rfl) ?_))|((with_reducible apply ldn_id);apply lda_hs hp;(focus repeat' constructor);exact rfl)|((with_reducible apply st_id);apply sta_hs hp;(focus repeat' constructor);exact rfl;exact rfl;clear hp;intro w hp;(try dsimp only [List.set] at hp))|((with_reducible apply gen_id);first|(refine gen_ixs rfl rfl ‹_› rfl rfl (by omega) ?_)|(apply gen_len;exact rfl;exact rfl;assumption))|((with_reducible apply dr_id);refine dr_auto tabOk (by kernel_rfl) (by decide+kernel) ?_;(try replace hp:=hp.drew))|((with_reducible apply rd_id);first|(refine rd_ixs rfl rfl ‹_› rfl rfl (by omega) ?_)|(refine rd_conv tabOk rfl rfl rfl rfl ?_)))<;>(conv=>whnf)))
     exact ps_val (v':= .tuple #[Payload.pv Sl.nil,i64 2]) rfl ⟨Sl.nil,by rw [hDe];rfl,by rw [hDe],payNil_made hp.chg⟩
    have hDe:D=decA (m - (i+1)) (r'.drop nb.toNat) (pp.l.map tk++ [(fee,r'.take nb.toNat)]):=by rw [hstep,dec2_cons,if_neg hb1,if_neg hb2]
    obtain ⟨nn,hnn⟩:∃nn,nb.toNat=nn:=⟨_,rfl⟩
    have hc5:(cur.cut 1 5 (5+nn)).l=r'.take nn:=by
     rw [cut_l,hcx,hr,show 5+nn=nn+1+1+1+1+1 by omega]
     rfl
    have hc6:(cur.cut 1 (5+nn) cur.l.length).l=r'.drop nn:=by
     rw [cut_l,List.take_length,hcx,hr,show 5+nn=nn+1+1+1+1+1 by omega]
     rfl
    have hc7:(cur.cut 1 5 (5+nn)).l.length≤64:=by rw [hc5,List.length_take];omega
    ((conv=>whnf);repeat' ((first|((with_reducible apply br_id);first|with_reducible refine br_f ?_|((with_reducible refine br_dec (fun hx=>?_) (fun hx=>?_))<;>(try (exfalso;first|omega|contradiction))))|((with_reducible apply ar_id);first|(with_reducible refine ar_eq32 hfI (by omega) ?_)|(refine ar_n (5+nn) (by omega) (by omega) ?_)|refine ar_i64 (by omega) ?_|refine ar_u32 (by omega) ?_)|((with_reducible apply cn_id);first|refine cn rfl ?_|refine cn ‹_› ?_)|((with_reducible apply ld_id);first|(refine ld_row0 hp hB ‹_› ‹_› _ rfl ‹_› (by rfl) ?_)|(apply ld_hs hp;(focus repeat' constructor);exact rfl))|((with_reducible apply st_id);apply sta_hs hp;(focus repeat' constructor);exact rfl;exact rfl;clear hp;intro w hp;(try dsimp only [List.set] at hp))|((with_reducible apply gen_id);first|(refine gen_ixs rfl rfl ‹_› rfl rfl (by omega) ?_)|((refine gen_bs rfl hp el_u8 u8L [] [] rfl rfl rfl (fun _ h=>by cases h) (by omega) ?_);clear hp;intro bq w hp)|((refine gen_appe rfl hp 0 rfl el_u8 rfl ⟨rfl,rfl,rfl⟩ (cur.cut 1 5 (5+nn)) rfl ((hcat.cut (by omega) (by omega)).keep hp.chg hB) (fun _ _=>rfl) u8_one (by omega) (by simp only [maxLen];omega) ?_);clear hp;intro A1 c1 w hcc hp;dsimp only [List.set] at hp)|((refine gen_bs rfl hp el_tier Tier.c [⟨fee,⟨A1,c1,(cur.cut 1 5 (5+nn)).l⟩⟩] [Tier.v ⟨fee,⟨A1,c1,(cur.cut 1 5 (5+nn)).l⟩⟩] rfl rfl rfl (fun _ hh=>by simp at hh;subst hh;rfl) (by omega) ?_);clear hp;intro br w hp)|((refine gen_app (s:=pp) rfl hp 5 rfl el_tier rfl ⟨some ⟨br,0,none⟩,1, [⟨fee,⟨A1,c1,(cur.cut 1 5 (5+nn)).l⟩⟩]⟩ rfl (hp.row (j:=0) rfl) (fun _ _=>rfl) tierL_one (by simp only [List.length_cons,List.length_nil];omega) (by simp only [maxLen,List.length_cons,List.length_nil];omega) ?_);clear hp;intro A2 c2 w hp;dsimp only [List.set] at hp)|(refine gen_cutl rfl el_u8 cur rfl (hcat.keep hp.chg hB) rfl (l:=5+nn) rfl (by omega) ?_)|(apply gen_build;exact rfl;exact rfl)|(apply gen_len;exact rfl;exact rfl;assumption))|((with_reducible apply dr_id);(refine dr_autot tabOk (by kernel_rfl) (by decide+kernel) ?_);replace hp:=hp.drew)|((with_reducible apply rd_id);first|(refine rd_ixs rfl rfl ‹_› rfl rfl (by omega) ?_)|(refine rd_conv tabOk rfl rfl rfl rfl ?_)|(refine rd_cutb rfl el_u8 cur rfl hcat.le rfl rfl (l:=5) (h:=5+nn) rfl rfl (by omega) (by omega) ?_)))<;>(conv=>whnf)))
    refine lp_next (i+1,⟨A2,c2,pp.l++ [⟨fee,⟨A1,c1,(cur.cut 1 5 (5+nn)).l⟩⟩]⟩,cur.cut 1 (5+nn) cur.l.length,lo+(5+nn)) (by show m - (i+1) < m - i;omega) (by (repeat' (first|exact trivial|(refine ⟨rfl,?_⟩)))) ⟨by show i+1≤m;omega,by show (pp.l++ [_]).length=i+1;rw [List.length_append,hpl];rfl,hpart.cut hcat.le (by omega),?_,?_⟩
    ·show decA (m - (i+1)) (cur.cut 1 (5+nn) cur.l.length).l ((pp.l++ [_]).map tk)=D
     rw [List.map_append,hc6,hDe,hnn,List.map_cons,List.map_nil]
     show decA _ _ (pp.l.map tk++ [(fee,(cur.cut 1 5 (5+nn)).l)])=_
     rw [hc5]
    ·have h1:=hp.sub (rs':=_::_::_::_::_::pp.l.map txR) (List.Sublist.cons _ (List.Sublist.refl _))
     have h2:=h1.perm (List.perm_append_singleton _ _).symm
     show Hp N0 w0 w (_::_::_::_::(pp.l++ [_]).map txR)
     rw [List.map_append]
     exact h2
  ·obtain ⟨k,hik⟩:∃k,i=k+1:=⟨i - 1,by omega⟩
   obtain ⟨bT,oT,y,hT,hbT,hrowT,hy⟩:=(hp.row (j:=3) rfl).has (i:=k) (by omega)
   have hnu:=notUp_last (hpl.trans hik) hy fee
   by_cases hle:fee.toNat≤y.fee.toNat
   ·rw [hnu,decide_eq_true hle,if_pos rfl] at hstep
    have hDe:decE D=([],4):=by rw [hstep];rfl
    ((conv=>whnf);repeat' ((first|((with_reducible apply br_id);first|with_reducible refine br_t ?_|((with_reducible refine br_dec (fun hx=>?_) (fun hx=>?_))<;>(try (exfalso;first|omega|contradiction))))|((with_reducible apply ar_id);first|(with_reducible refine ar_eq32 hfI (by omega) ?_)|(refine ar_n (k) (by omega) (by omega) ?_)|refine ar_u32 (by omega) ?_)|((with_reducible apply cn_id);refine cn rfl ?_)|((with_reducible apply ld_id);first|(refine ld_row0 hp hB ‹_› ‹_› _ rfl ‹_› (by rfl) ?_)|(refine ld_own hp 3 rfl ‹_› _ _ rfl ‹_› (by rfl) ?_)|(apply ld_hs hp;(focus repeat' constructor);exact rfl))|((with_reducible apply ldn_id);apply lda_hs hp;(focus repeat' constructor);exact rfl)|((with_reducible apply st_id);apply sta_hs hp;(focus repeat' constructor);exact rfl;exact rfl;clear hp;intro w hp;(try dsimp only [List.set] at hp))|((with_reducible apply gen_id);first|(refine gen_ixs rfl rfl ‹_› rfl rfl (by omega) ?_)|(apply gen_len;exact rfl;exact rfl;assumption))|((with_reducible apply dr_id);refine dr_auto tabOk (by kernel_rfl) (by decide+kernel) ?_;(try replace hp:=hp.drew))|((with_reducible apply rd_id);first|(refine rd_ixs rfl rfl ‹_› rfl rfl (by omega) ?_)|(refine rd_conv tabOk rfl rfl rfl rfl ?_)))<;>(conv=>whnf)))
    exact ps_val (v':= .tuple #[Payload.pv Sl.nil,i64 4]) rfl ⟨Sl.nil,by rw [hDe];rfl,by rw [hDe],payNil_made hp.chg⟩
   ·rw [hnu,decide_eq_false hle,if_neg (by simp)] at hstep
    rcases hr:rest with _|⟨nb,r'⟩
    ·have hDe:decE D=([],2):=by rw [hstep,hr];rfl
     have hlen:cur.l.length=4:=by rw [hcx,hr];rfl
     ((conv=>whnf);repeat' ((first|((with_reducible apply br_id);first|with_reducible refine br_t ?_|((with_reducible refine br_dec (fun hx=>?_) (fun hx=>?_))<;>(try (exfalso;first|omega|contradiction))))|((with_reducible apply ar_id);first|(with_reducible refine ar_eq32 hfI (by omega) ?_)|(refine ar_n (k) (by omega) (by omega) ?_)|refine ar_u32 (by omega) ?_)|((with_reducible apply cn_id);refine cn rfl ?_)|((with_reducible apply ld_id);first|(refine ld_row0 hp hB ‹_› ‹_› _ rfl ‹_› (by rfl) ?_)|(refine ld_own hp 3 rfl ‹_› _ _ rfl ‹_› (by rfl) ?_)|(apply ld_hs hp;(focus repeat' constructor);exact rfl))|((with_reducible apply ldn_id);apply lda_hs hp;(focus repeat' constructor);exact rfl)|((with_reducible apply st_id);apply sta_hs hp;(focus repeat' constructor);exact rfl;exact rfl;clear hp;intro w hp;(try dsimp only [List.set] at hp))|((with_reducible apply gen_id);first|(refine gen_ixs rfl rfl ‹_› rfl rfl (by omega) ?_)|(apply gen_len;exact rfl;exact rfl;assumption))|((with_reducible apply dr_id);refine dr_auto tabOk (by kernel_rfl) (by decide+kernel) ?_;(try replace hp:=hp.drew))|((with_reducible apply rd_id);first|(refine rd_ixs rfl rfl ‹_› rfl rfl (by omega) ?_)|(refine rd_conv tabOk rfl rfl rfl rfl ?_)))<;>(conv=>whnf)))
     exact ps_val (v':= .tuple #[Payload.pv Sl.nil,i64 2]) rfl ⟨Sl.nil,by rw [hDe];rfl,by rw [hDe],payNil_made hp.chg⟩
    ·have hx4:cur.l[4]? =some nb:=by rw [hcx,hr];rfl
     have hlen:cur.l.length=r'.length+5:=by rw [hcx,hr];rfl
     have l4:=nb.toNat_lt
     rw [hr] at hstep
     by_cases hb1:nb.toNat < 1∨64 < nb.toNat
     ·have hDe:decE D=([],4):=by rw [hstep,dec2_cons,if_pos hb1];rfl
      ((conv=>whnf);repeat' ((first|((with_reducible apply br_id);first|with_reducible refine br_t ?_|with_reducible refine br_f ?_|((with_reducible refine br_dec (fun hx=>?_) (fun hx=>?_))<;>(try (exfalso;first|omega|contradiction))))|((with_reducible apply ar_id);first|(with_reducible refine ar_eq32 hfI (by omega) ?_)|(refine ar_n (k) (by omega) (by omega) ?_)|refine ar_i64 (by omega) ?_|refine ar_u32 (by omega) ?_)|((with_reducible apply cn_id);refine cn rfl ?_)|((with_reducible apply ld_id);first|(refine ld_row0 hp hB ‹_› ‹_› _ rfl ‹_› (by rfl) ?_)|(refine ld_own hp 3 rfl ‹_› _ _ rfl ‹_› (by rfl) ?_)|(apply ld_hs hp;(focus repeat' constructor);exact rfl))|((with_reducible apply ldn_id);apply lda_hs hp;(focus repeat' constructor);exact rfl)|((with_reducible apply st_id);apply sta_hs hp;(focus repeat' constructor);exact rfl;exact rfl;clear hp;intro w hp;(try dsimp only [List.set] at hp))|((with_reducible apply gen_id);first|(refine gen_ixs rfl rfl ‹_› rfl rfl (by omega) ?_)|(apply gen_len;exact rfl;exact rfl;assumption))|((with_reducible apply dr_id);refine dr_auto tabOk (by kernel_rfl) (by decide+kernel) ?_;(try replace hp:=hp.drew))|((with_reducible apply rd_id);first|(refine rd_ixs rfl rfl ‹_› rfl rfl (by omega) ?_)|(refine rd_conv tabOk rfl rfl rfl rfl ?_)))<;>(conv=>whnf)))
      all_goals exact ps_val (v':= .tuple #[Payload.pv Sl.nil,i64 4]) rfl ⟨Sl.nil,by rw [hDe];rfl,by rw [hDe],payNil_made hp.chg⟩
     by_cases hb2:r'.length < nb.toNat
     ·have hDe:decE D=([],2):=by rw [hstep,dec2_cons,if_neg hb1,if_pos hb2];rfl
      ((conv=>whnf);repeat' ((first|((with_reducible apply br_id);first|with_reducible refine br_t ?_|with_reducible refine br_f ?_|((with_reducible refine br_dec (fun hx=>?_) (fun hx=>?_))<;>(try (exfalso;first|omega|contradiction))))|((with_reducible apply ar_id);first|(with_reducible refine ar_eq32 hfI (by omega) ?_)|(refine ar_n (k) (by omega) (by omega) ?_)|refine ar_i64 (by omega) ?_|refine ar_u32 (by omega) ?_)|((with_reducible apply cn_id);refine cn rfl ?_)|((with_reducible apply ld_id);first|(refine ld_row0 hp hB ‹_› ‹_› _ rfl ‹_› (by rfl) ?_)|(refine ld_own hp 3 rfl ‹_› _ _ rfl ‹_› (by rfl) ?_)|(apply ld_hs hp;(focus repeat' constructor);exact rfl))|((with_reducible apply ldn_id);apply lda_hs hp;(focus repeat' constructor);exact rfl)|((with_reducible apply st_id);apply sta_hs hp;(focus repeat' constructor);exact rfl;exact rfl;clear hp;intro w hp;(try dsimp only [List.set] at hp))|((with_reducible apply gen_id);first|(refine gen_ixs rfl rfl ‹_› rfl rfl (by omega) ?_)|(apply gen_len;exact rfl;exact rfl;assumption))|((with_reducible apply dr_id);refine dr_auto tabOk (by kernel_rfl) (by decide+kernel) ?_;(try replace hp:=hp.drew))|((with_reducible apply rd_id);first|(refine rd_ixs rfl rfl ‹_› rfl rfl (by omega) ?_)|(refine rd_conv tabOk rfl rfl rfl rfl ?_)))<;>(conv=>whnf)))
      exact ps_val (v':= .tuple #[Payload.pv Sl.nil,i64 2]) rfl ⟨Sl.nil,by rw [hDe];rfl,by rw [hDe],payNil_made hp.chg⟩
     have hDe:D=decA (m - (i+1)) (r'.drop nb.toNat) (pp.l.map tk++ [(fee,r'.take nb.toNat)]):=by rw [hstep,dec2_cons,if_neg hb1,if_neg hb2]
     obtain ⟨nn,hnn⟩:∃nn,nb.toNat=nn:=⟨_,rfl⟩
     have hc5:(cur.cut 1 5 (5+nn)).l=r'.take nn:=by
      rw [cut_l,hcx,hr,show 5+nn=nn+1+1+1+1+1 by omega]
      rfl
     have hc6:(cur.cut 1 (5+nn) cur.l.length).l=r'.drop nn:=by
      rw [cut_l,List.take_length,hcx,hr,show 5+nn=nn+1+1+1+1+1 by omega]
      rfl
     have hc7:(cur.cut 1 5 (5+nn)).l.length≤64:=by rw [hc5,List.length_take];omega
     ((conv=>whnf);repeat' ((first|((with_reducible apply br_id);first|with_reducible refine br_t ?_|with_reducible refine br_f ?_|((with_reducible refine br_dec (fun hx=>?_) (fun hx=>?_))<;>(try (exfalso;first|omega|contradiction))))|((with_reducible apply ar_id);first|(with_reducible refine ar_eq32 hfI (by omega) ?_)|(refine ar_n (k) (by omega) (by omega) ?_)|(refine ar_n (5+nn) (by omega) (by omega) ?_)|refine ar_i64 (by omega) ?_|refine ar_u32 (by omega) ?_)|((with_reducible apply cn_id);first|refine cn rfl ?_|refine cn ‹_› ?_)|((with_reducible apply ld_id);first|(refine ld_row0 hp hB ‹_› ‹_› _ rfl ‹_› (by rfl) ?_)|(refine ld_own hp 3 rfl ‹_› _ _ rfl ‹_› (by rfl) ?_)|(apply ld_hs hp;(focus repeat' constructor);exact rfl))|((with_reducible apply st_id);apply sta_hs hp;(focus repeat' constructor);exact rfl;exact rfl;clear hp;intro w hp;(try dsimp only [List.set] at hp))|((with_reducible apply gen_id);first|(refine gen_ixs rfl rfl ‹_› rfl rfl (by omega) ?_)|((refine gen_bs rfl hp el_u8 u8L [] [] rfl rfl rfl (fun _ h=>by cases h) (by omega) ?_);clear hp;intro bq w hp)|((refine gen_appe rfl hp 0 rfl el_u8 rfl ⟨rfl,rfl,rfl⟩ (cur.cut 1 5 (5+nn)) rfl ((hcat.cut (by omega) (by omega)).keep hp.chg hB) (fun _ _=>rfl) u8_one (by omega) (by simp only [maxLen];omega) ?_);clear hp;intro A1 c1 w hcc hp;dsimp only [List.set] at hp)|((refine gen_bs rfl hp el_tier Tier.c [⟨fee,⟨A1,c1,(cur.cut 1 5 (5+nn)).l⟩⟩] [Tier.v ⟨fee,⟨A1,c1,(cur.cut 1 5 (5+nn)).l⟩⟩] rfl rfl rfl (fun _ hh=>by simp at hh;subst hh;rfl) (by omega) ?_);clear hp;intro br w hp)|((refine gen_app (s:=pp) rfl hp 5 rfl el_tier rfl ⟨some ⟨br,0,none⟩,1, [⟨fee,⟨A1,c1,(cur.cut 1 5 (5+nn)).l⟩⟩]⟩ rfl (hp.row (j:=0) rfl) (fun _ _=>rfl) tierL_one (by simp only [List.length_cons,List.length_nil];omega) (by simp only [maxLen,List.length_cons,List.length_nil];omega) ?_);clear hp;intro A2 c2 w hp;dsimp only [List.set] at hp)|(refine gen_cutl rfl el_u8 cur rfl (hcat.keep hp.chg hB) rfl (l:=5+nn) rfl (by omega) ?_)|(apply gen_build;exact rfl;exact rfl)|(apply gen_len;exact rfl;exact rfl;assumption))|((with_reducible apply dr_id);(refine dr_autot tabOk (by kernel_rfl) (by decide+kernel) ?_);replace hp:=hp.drew)|((with_reducible apply rd_id);first|(refine rd_ixs rfl rfl ‹_› rfl rfl (by omega) ?_)|(refine rd_conv tabOk rfl rfl rfl rfl ?_)|(refine rd_cutb rfl el_u8 cur rfl hcat.le rfl rfl (l:=5) (h:=5+nn) rfl rfl (by omega) (by omega) ?_)))<;>(conv=>whnf)))
     refine lp_next (i+1,⟨A2,c2,pp.l++ [⟨fee,⟨A1,c1,(cur.cut 1 5 (5+nn)).l⟩⟩]⟩,cur.cut 1 (5+nn) cur.l.length,lo+(5+nn)) (by show m - (i+1) < m - i;omega) (by (repeat' (first|exact trivial|(refine ⟨rfl,?_⟩)))) ⟨by show i+1≤m;omega,by show (pp.l++ [_]).length=i+1;rw [List.length_append,hpl];rfl,hpart.cut hcat.le (by omega),?_,?_⟩
     ·show decA (m - (i+1)) (cur.cut 1 (5+nn) cur.l.length).l ((pp.l++ [_]).map tk)=D
      rw [List.map_append,hc6,hDe,hnn,List.map_cons,List.map_nil]
      show decA _ _ (pp.l.map tk++ [(fee,(cur.cut 1 5 (5+nn)).l)])=_
      rw [hc5]
     ·have h1:=hp.sub (rs':=_::_::_::_::_::pp.l.map txR) (List.Sublist.cons _ (List.Sublist.refl _))
      have h2:=h1.perm (List.perm_append_singleton _ _).symm
      show Hp N0 w0 w (_::_::_::_::(pp.l++ [_]).map txR)
      rw [List.map_append]
      exact h2
 ·have hDe:D= .ok (pp.l.map tk,cur.l):=by
   rw [←hDD,show m - i=0 by omega]
   rfl
  rcases hcc:cur.l with _|⟨y,l'⟩
  ·have hdE:decE D=(pp.l.map tk,0):=by
    rw [hDe,hcc]
    rfl
   have hc0:cur.l.length=0:=by rw [hcc];rfl
   ((conv=>whnf);repeat' ((first|((with_reducible apply br_id);(with_reducible refine br_dec (fun hx=>?_) (fun hx=>?_))<;>(try (exfalso;first|omega|contradiction)))|((with_reducible apply cn_id);refine cn rfl ?_)|((with_reducible apply ldn_id);apply lda_hs hp;(focus repeat' constructor);exact rfl)|((with_reducible apply st_id);apply sta_hs hp;(focus repeat' constructor);exact rfl;exact rfl;clear hp;intro w hp;(try dsimp only [List.set] at hp))|((with_reducible apply gen_id);apply gen_len;exact rfl;exact rfl;assumption))<;>(conv=>whnf)))
   exact ps_val (v':= .tuple #[pp.pv,i64 0]) rfl ⟨pp,by rw [hdE],by rw [hdE],hp.made (List.Sublist.cons _ (List.Sublist.cons _ (List.Sublist.cons _ (List.Sublist.refl _))))⟩
  ·have hdE:decE D=([],3):=by
    rw [hDe,hcc]
    rfl
   have hc0:cur.l.length=l'.length+1:=by rw [hcc];rfl
   ((conv=>whnf);repeat' ((first|((with_reducible apply br_id);(with_reducible refine br_dec (fun hx=>?_) (fun hx=>?_))<;>(try (exfalso;first|omega|contradiction)))|((with_reducible apply cn_id);refine cn rfl ?_)|((with_reducible apply ldn_id);apply lda_hs hp;(focus repeat' constructor);exact rfl)|((with_reducible apply st_id);apply sta_hs hp;(focus repeat' constructor);exact rfl;exact rfl;clear hp;intro w hp;(try dsimp only [List.set] at hp))|((with_reducible apply gen_id);apply gen_len;exact rfl;exact rfl;assumption))<;>(conv=>whnf)))
   exact ps_val (v':= .tuple #[Payload.pv Sl.nil,i64 3]) rfl ⟨Sl.nil,by rw [hdE];rfl,by rw [hdE],payNil_made hp.chg⟩
set_option maxHeartbeats 500000
def flO (s:Rst):Option Int:=match s with
 | .error e=>some e
 | .ok _=>none
abbrev rv9 (q:Sl UInt8) (p:Nat) (s:Rst):Value:= .agg #[.slice q.A q.l.length q.c,i64 p,i64 (cod s)]
abbrev rc9 (q:Sl UInt8) (p:Nat) (s:Rst):Array Value:= #[.slice q.A q.l.length q.c,i64 p,i64 (cod s)]
def RdD (l:Byt) (p:Nat) (s:Rst):Prop:=RdI l p (flO s) s
theorem rdd_of {l:Byt} {p:Nat} {f:Option Int} {s:Rst} (h:RdI l p f s):RdD l p s:=by
 rcases h.is with ⟨rfl,rfl⟩|⟨e,rfl,rfl,h1⟩
 ·exact ⟨h.le, .inl ⟨rfl,rfl⟩⟩
 ·exact ⟨h.le, .inr ⟨e,rfl,rfl,h1⟩⟩
theorem RdD.fld {l:Byt} {p:Nat} {s:Rst} (h:RdD l p s) {e:Int} (he:e=0∨1≤e∧e≤4):RdD l p (fld s e):=by
 rcases he with rfl|he
 ·exact rdd_of (RdI.fail0 h)
 ·exact rdd_of (RdI.fail h he)
theorem cod_fld {s:Rst} {e:Int} (h:cod s=0) (hs:∀e,s≠ .error e):cod (fld s e)=e:=by
 cases s with
 |error e'=>exact absurd rfl (hs e')
 |ok l=>
  show cod (if e=0 then .ok l else .error e:Rst)=e
  split
  ·rename_i h
   exact h.symm
  ·rfl
def SubQ (q x:Sl UInt8):Prop:=∀(B:Nat) (w:World),SlAt B w u8L 1 q→SlAt B w u8L 1 x
section
variable {w0 : World} {p B : Nat} {q : Sl UInt8} {s : Rst}
theorem rfail9_any (e:Int) (hI:RdD q.l p s):Calls Tryz.prog 84 #[rv9 q p s,i64 e] w0 fun r w'=>r= .returned (rv9 q p (fld s e))∧Chg N0 w0 w':=by
 have hp:=Hp.start (S:=N0) w0
 rcases hI.is with ⟨hf,hs⟩|⟨e',hf,hs,h1⟩
 ·have hc:cod s=0:=by rw [hs];rfl
  have hc2:cod (fld s e)=e:=cod_fld hc (fun e' he=>by rw [hs] at he;cases he)
  unfold rv9
  rw [hc,hc2]
  clear hs hf hI
  refine calls_x (args:= [_,_]) tabOk Tryz.func84 Tryz.ntmps84 Tryz.results84 rfl (Nat.le_of_ble_eq_true rfl) ?_
  ((conv=>whnf);repeat' ((first|((with_reducible apply br_id);(with_reducible refine br_eq (fun hx=>?_) (fun hx=>?_))<;>(try (exfalso;first|omega|contradiction)))|((with_reducible apply cn_id);refine cn rfl ?_)|((with_reducible apply ld_id);apply ld_hs hp;(focus repeat' constructor);exact rfl)|((with_reducible apply ldn_id);apply lda_hs hp;(focus repeat' constructor);exact rfl)|((with_reducible apply al_id);refine al_cel hp ?_;clear hp;intro bb w hp)|((with_reducible apply st_id);first|(apply sta_hs hp;(focus repeat' constructor);exact rfl;exact rfl;clear hp;intro w hp;(try dsimp only [List.set] at hp))|(apply st_hs hp;(focus repeat' constructor);exact rfl;exact rfl;clear hp;intro w hp;(try dsimp only [List.set] at hp))))<;>(conv=>whnf)))
  exact ps_val (v':= .agg #[.slice q.A q.l.length q.c,i64 p,i64 e]) rfl ⟨rfl,hp.chg⟩
 ·have hc:cod s=e':=by rw [hs];rfl
  have hc2:fld s e=s:=fld_bad (by omega)
  rw [hc2]
  unfold rv9
  rw [hc]
  clear hs hf hI
  refine calls_x (args:= [_,_]) tabOk Tryz.func84 Tryz.ntmps84 Tryz.results84 rfl (Nat.le_of_ble_eq_true rfl) ?_
  ((conv=>whnf);repeat' ((first|((with_reducible apply br_id);(with_reducible refine br_eq (fun hx=>?_) (fun hx=>?_))<;>(try (exfalso;first|omega|contradiction)))|((with_reducible apply cn_id);refine cn rfl ?_)|((with_reducible apply ld_id);apply ld_hs hp;(focus repeat' constructor);exact rfl)|((with_reducible apply ldn_id);apply lda_hs hp;(focus repeat' constructor);exact rfl)|((with_reducible apply al_id);refine al_cel hp ?_;clear hp;intro bb w hp)|((with_reducible apply st_id);apply sta_hs hp;(focus repeat' constructor);exact rfl;exact rfl;clear hp;intro w hp;(try dsimp only [List.set] at hp)))<;>(conv=>whnf)))
  exact ps_val (v':= .agg #[.slice q.A q.l.length q.c,i64 p,i64 e']) rfl ⟨rfl,hp.chg⟩
theorem rFail9_any (e:Int) (hI:RdD q.l p s):Calls Tryz.prog 88 #[rv9 q p s,i64 e] w0 fun r w'=>r= .returned (rv9 q p (fld s e))∧Chg N0 w0 w':=by
 have hp:=Hp.start (S:=N0) w0
 have hf:=fun {w:World}=>rfail9_any (w0:=w) e hI
 refine calls_x (args:= [_,_]) tabOk Tryz.func88 Tryz.ntmps88 Tryz.results88 rfl (Nat.le_of_ble_eq_true rfl) ?_
 ((conv=>whnf);repeat' ((first|((with_reducible apply cn_id);refine cn rfl ?_)|((with_reducible apply ldn_id);apply lda_hs hp;(focus repeat' constructor);exact rfl)|((with_reducible apply al_id);refine al_cel hp ?_;clear hp;intro bb w hp)|((with_reducible apply st_id);apply sta_hs hp;(focus repeat' constructor);exact rfl;exact rfl;clear hp;intro w hp;(try dsimp only [List.set] at hp))|((with_reducible apply cl_id);(refine cl_eq (hf) rfl rfl ?_;rintro e w ⟨rfl,hcc⟩;replace hp:=hp.call0 hcc;refine ⟨_,rfl,?_⟩)))<;>(conv=>whnf)))
 exact ps_val (v':=rv9 q p (fld s e)) rfl ⟨rfl,hp.chg⟩
theorem rDone9_any (hI:RdD q.l p s) (hq:q.l.length≤1000000):Calls Tryz.prog 33 #[rv9 q p s] w0 fun r w'=>r= .returned (i64 (rdEnd s))∧Chg N0 w0 w':=by
 have hp:=Hp.start (S:=N0) w0
 have uy:=Tryz.underlying34
 obtain ⟨h1,h2⟩:=RdI.fin hI
 have hle:=hI.le
 rcases hI.is with ⟨hf,hs⟩|⟨e',hf,hs,h4⟩
 ·have hc:cod s=0:=by rw [hs];rfl
  rw [hf] at h1
  unfold rv9
  rw [hc,←h1]
  clear hs hf hI h1 h2
  refine calls_x (args:= [_]) tabOk Tryz.func33 Tryz.ntmps33 Tryz.results33 rfl (Nat.le_of_ble_eq_true rfl) ?_
  ((conv=>whnf);repeat' ((first|((with_reducible apply br_id);first|with_reducible refine br_t ?_|((with_reducible refine br_dec (fun hx=>?_) (fun hx=>?_))<;>(try (exfalso;first|omega|contradiction)))|((with_reducible refine br_eq (fun hx=>?_) (fun hx=>?_))<;>(try (exfalso;first|omega|contradiction))))|((with_reducible apply ld_id);apply ld_hs hp;(focus repeat' constructor);exact rfl)|((with_reducible apply al_id);refine al_cel hp ?_;clear hp;intro bb w hp)|((with_reducible apply gen_id);apply gen_len;exact rfl;exact rfl;assumption))<;>(conv=>whnf)))
  ·exact ps_val (v':=i64 3) rfl ⟨by rw [if_neg (by omega)];rfl,hp.chg⟩
  ·exact ps_val (v':=i64 0) rfl ⟨by rw [if_pos (by omega)];rfl,hp.chg⟩
 ·have hc:cod s=e':=by rw [hs];rfl
  rw [hf] at h1
  unfold rv9
  rw [hc,←h1]
  clear hs hf hI h1 h2
  refine calls_x (args:= [_]) tabOk Tryz.func33 Tryz.ntmps33 Tryz.results33 rfl (Nat.le_of_ble_eq_true rfl) ?_
  ((conv=>whnf);repeat' ((first|((with_reducible apply br_id);first|with_reducible refine br_f ?_|((with_reducible refine br_eq (fun hx=>?_) (fun hx=>?_))<;>(try (exfalso;first|omega|contradiction))))|((with_reducible apply ld_id);apply ld_hs hp;(focus repeat' constructor);exact rfl)|((with_reducible apply al_id);refine al_cel hp ?_;clear hp;intro bb w hp))<;>(conv=>whnf)))
  exact ps_val (v':=i64 e') rfl ⟨rfl,hp.chg⟩
theorem rBytes9_any (n:Nat) (hn:n≤1000000) (hI:RdD q.l p s) (hq:q.l.length≤1000000) (h:SlAt B w0 u8L 1 q):Calls Tryz.prog 85 #[rv9 q p s,i64 n] w0 fun r w'=>
  ∃(x:Sl UInt8) (p':Nat),SubQ q x∧Rv (rdR (fixC n).dec s) x.l∧x.l.length≤n∧(cod (lft (rdR (fixC n).dec s))=0→x.l.length=n)∧RdD q.l p' (lft (rdR (fixC n).dec s))∧r= .returned (.tuple #[rv9 q p' (lft (rdR (fixC n).dec s)),x.v])∧Chg N0 w0 w':=by
 have hp:=Hp.start (S:=N0) w0
 have uy:=Tryz.underlying34
 have hB:∀b,N0 b→B≤b:=fun _ hh=>hh.elim
 have hle:=hI.le
 have hfa:=fun {w:World} (e:Int)=>rfail9_any (w0:=w) e hI
 rcases hI.is with ⟨hf,hs⟩|⟨e',hf,hs,h4⟩
 ·have hd:rdR (fixC n).dec s=if q.l.length - p < n then .error 2 else .ok ((q.l.drop p).take n,(q.l.drop p).drop n):=by
   rw [hs]
   show (if (q.l.drop p).length < n then _ else _)=_
   rw [List.length_drop]
  have hc:cod s=0:=by rw [hs];rfl
  have hf2:fld s 2= .error 2:=by rw [hs];rfl
  by_cases hlt:q.l.length - p < n
  ·rw [if_pos hlt] at hd
   rw [hd]
   have hfa2:=fun {w:World}=>hfa (w:=w) 2
   rw [hf2] at hfa2
   unfold rv9 at hfa2 ⊢
   rw [hc] at hfa2 ⊢
   clear hfa
   refine calls_x (args:= [_,_]) tabOk Tryz.func85 Tryz.ntmps85 Tryz.results85 rfl (Nat.le_of_ble_eq_true rfl) ?_
   ((conv=>whnf);repeat' ((first|((with_reducible apply br_id);first|((with_reducible refine br_dec (fun hx=>?_) (fun hx=>?_))<;>(try (exfalso;first|omega|contradiction)))|((with_reducible refine br_ne (fun hx=>?_) (fun hx=>?_))<;>(try (exfalso;first|omega|contradiction))))|((with_reducible apply ar_id);(refine ar_n (q.l.length - p) (by omega) (by omega) ?_))|((with_reducible apply cn_id);refine cn rfl ?_)|((with_reducible apply ld_id);apply ld_hs hp;(focus repeat' constructor);exact rfl)|((with_reducible apply ldn_id);apply lda_hs hp;(focus repeat' constructor);exact rfl)|((with_reducible apply al_id);refine al_cel hp ?_;clear hp;intro bb w hp)|((with_reducible apply st_id);apply sta_hs hp;(focus repeat' constructor);exact rfl;exact rfl;clear hp;intro w hp;(try dsimp only [List.set] at hp))|((with_reducible apply gen_id);apply gen_len;exact rfl;exact rfl;assumption)|((with_reducible apply cl_id);(refine cl_eq (hfa2) rfl rfl ?_;rintro e w ⟨rfl,hcc⟩;replace hp:=hp.call0 hcc;refine ⟨_,rfl,?_⟩)))<;>(conv=>whnf)))
   exact ps_val (v':= .tuple #[rv9 q p (.error 2), .slice none 0 0]) rfl ⟨Sl.nil,p,fun _ _ _=>.none_,fun a r he=>(by cases he),Nat.zero_le _,fun hh=>(by cases hh),⟨hle, .inr ⟨2,rfl,rfl,by decide⟩⟩,rfl,hp.chg⟩
  ·rw [if_neg hlt] at hd
   rw [hd]
   unfold rv9
   rw [hc]
   clear hfa
   have hcl:(q.cut 1 p (p+n)).l=(q.l.drop p).take n:=by
    show (q.l.take (p+n)).drop p=_
    rw [List.drop_take,Nat.add_sub_cancel_left]
   have hcl2:(q.cut 1 p (p+n)).l.length=n:=by rw [hcl,List.length_take,List.length_drop];omega
   refine calls_x (args:= [_,_]) tabOk Tryz.func85 Tryz.ntmps85 Tryz.results85 rfl (Nat.le_of_ble_eq_true rfl) ?_
   ((conv=>whnf);repeat' ((first|((with_reducible apply br_id);first|((with_reducible refine br_dec (fun hx=>?_) (fun hx=>?_))<;>(try (exfalso;first|omega|contradiction)))|((with_reducible refine br_ne (fun hx=>?_) (fun hx=>?_))<;>(try (exfalso;first|omega|contradiction))))|((with_reducible apply ar_id);first|(refine ar_n (q.l.length - p) (by omega) (by omega) ?_)|(refine ar_n (p+n) (by omega) (by omega) ?_))|((with_reducible apply cn_id);refine cn rfl ?_)|((with_reducible apply ld_id);apply ld_hs hp;(focus repeat' constructor);exact rfl)|((with_reducible apply ldn_id);apply lda_hs hp;(focus repeat' constructor);exact rfl)|((with_reducible apply al_id);refine al_cel hp ?_;clear hp;intro bb w hp)|((with_reducible apply st_id);first|(apply sta_hs hp;(focus repeat' constructor);exact rfl;exact rfl;clear hp;intro w hp;(try dsimp only [List.set] at hp))|(apply st_hs hp;(focus repeat' constructor);exact rfl;exact rfl;clear hp;intro w hp;(try dsimp only [List.set] at hp)))|((with_reducible apply gen_id);first|(refine gen_cutb rfl el_u8 q rfl (h.keep hp.chg hB) rfl rfl (l:=p) (h:=p+n) rfl rfl (by omega) (by omega) ?_)|(apply gen_len;exact rfl;exact rfl;assumption)))<;>(conv=>whnf)))
   exact ps_val (v':= .tuple #[rv9 q (p+n) (.ok ((q.l.drop p).drop n)),(q.cut 1 p (p+n)).v]) rfl ⟨q.cut 1 p (p+n),p+n,fun _ _ h=>h.cut (by omega) (by omega),fun a r he=>(by cases he;exact hcl),by omega,fun _=>hcl2,⟨by omega, .inl ⟨rfl,by show Except.ok _=_;rw [List.drop_drop]⟩⟩,rfl,hp.chg⟩
 ·have hd:rdR (fixC n).dec s= .error e':=by rw [hs];rfl
  have hc:cod s=e':=by rw [hs];rfl
  rw [hd]
  unfold rv9
  rw [hc]
  clear hfa
  refine calls_x (args:= [_,_]) tabOk Tryz.func85 Tryz.ntmps85 Tryz.results85 rfl (Nat.le_of_ble_eq_true rfl) ?_
  ((conv=>whnf);repeat' ((first|((with_reducible apply br_id);(with_reducible refine br_ne (fun hx=>?_) (fun hx=>?_))<;>(try (exfalso;first|omega|contradiction)))|((with_reducible apply cn_id);refine cn rfl ?_)|((with_reducible apply ld_id);apply ld_hs hp;(focus repeat' constructor);exact rfl)|((with_reducible apply ldn_id);apply lda_hs hp;(focus repeat' constructor);exact rfl)|((with_reducible apply al_id);refine al_cel hp ?_;clear hp;intro bb w hp)|((with_reducible apply st_id);apply sta_hs hp;(focus repeat' constructor);exact rfl;exact rfl;clear hp;intro w hp;(try dsimp only [List.set] at hp)))<;>(conv=>whnf)))
  exact ps_val (v':= .tuple #[rv9 q p (.error e'), .slice none 0 0]) rfl ⟨Sl.nil,p,fun _ _ _=>.none_,fun a r he=>(by cases he),Nat.zero_le _,fun hh=>absurd hh (by show e'≠0;omega),⟨hle, .inr ⟨e',rfl,rfl,h4⟩⟩,rfl,hp.chg⟩
end
end Go.Proofs.YtpbapnlnheahnaaGreatDoor
