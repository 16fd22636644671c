/- MImprintBytes21: parts of the proof of ImprintBytes: Dec3, StaFew, Idx, Blk2, Rested. No condition of their own. -/
import Derived.Test.YtpbapnlnheahnaaGreatDoorMImprintBytes20
import Derived.Test.YtpbapnlnheahnaaGreatDoorMImprintBytes7
import Derived.Test.YtpbapnlnheahnaaGreatDoorMImprintBytes13
import Derived.Test.YtpbapnlnheahnaaGreatDoorMImprintBytes6
import Derived.Test.YtpbapnlnheahnaaGreatDoorMImprintBytes14
import Derived.Test.YtpbapnlnheahnaaGreatDoorMImprintBytes19
import Derived.Test.YtpbapnlnheahnaaGreatDoorMImprintBytes16
import Derived.Test.YtpbapnlnheahnaaGreatDoorMImprintBytes9
import Derived.Test.YtpbapnlnheahnaaGreatDoorMImprintBytes15
set_option linter.unusedSimpArgs false
set_option linter.unusedVariables false
namespace Go.Proofs.YtpbapnlnheahnaaGreatDoor
open Go.RowKit Go.Stop
set_option maxRecDepth 100000
set_option maxHeartbeats 500000
theorem dec1_cod {l:List UInt8} {ts:List TkV} {e:Int} (h:dec1 l ts= .error e):e=2∨e=4:=by
 unfold dec1 at h
 split at h
 ·cases h;exact .inl rfl
 ·split at h
  ·cases h;exact .inr rfl
  ·split at h
   ·cases h;exact .inl rfl
   ·split at h
    ·cases h;exact .inr rfl
    ·split at h
     ·cases h;exact .inl rfl
     ·cases h
theorem decA_cod:∀{n:Nat} {l:List UInt8} {ts:List TkV} {e:Int},decA n l ts= .error e→e=2∨e=4
 |0,_,_,_,h=>by cases h
 |n+1,l,ts,e,h=>by
  unfold decA at h
  cases hd:dec1 l ts with
  |error e'=>
   rw [hd] at h
   cases h
   exact dec1_cod hd
  |ok u=>
   rw [hd] at h
   exact decA_cod h
theorem dec_cod (l:List UInt8):(dec l).2=0∨1≤(dec l).2∧(dec l).2≤4:=by
 unfold dec
 split
 ·exact .inr (by decide)
 ·split
  ·exact .inr (by decide)
  ·rename_i m r _
   cases hd:decA m.toNat r [] with
   |error e=>
    have:=decA_cod hd
    show e=0∨1≤e∧e≤4
    omega
   |ok u=>
    unfold decE
    dsimp only
    split
    ·exact .inl rfl
    ·exact .inr (by decide)
section
variable {pr pn pk b p : Nat} {q : Sl UInt8} {f : Flt} {s : Rst} {w0 : World}
theorem cd5_any (hI:RdI q.l p (badE f) s) (hq:q.l.length≤1000000) (h:RdX pr pn pk b p q f w0):Calls Tryz.prog 75 #[ptr pn,ptr pr,ptr pk] w0 fun e w'=>
  ∃(x:Blob) (p':Nat) (f':Flt),Rv (rdR blobC.dec s) x.p∧RdI q.l p' (badE f') (lft (rdR blobC.dec s))∧e= .returned x.v∧Mut (star (rdRs b q p f)) (star (bdatR x::rdRs b q p' f')) w0 w':=by
 have hp:=Hp.start1 h.ok
 refine calls_x (args:= [_,_,_]) tabOk Tryz.func75 Tryz.ntmps75 Tryz.results75 rfl (Nat.le_of_ble_eq_true rfl) ?_
 ((conv=>whnf);repeat' (((with_reducible apply al_id);refine al_cel hp ?_;clear hp;intro bb w hp)<;>(conv=>whnf)))
 refine dr_autoi [0,2,4,6] (fun w=>w.cell? ⟨pn,0,none⟩=some (fnV pr)∧w.cell? ⟨pr,0,none⟩=some (ptr b)∧w.cell? ⟨pk,0,none⟩=some (fkV pr)) tabOk (by kernel_rfl) (by decide+kernel) rfl ⟨hp.drew.chg.cell h.cn h.outn,hp.drew.chg.cell h.cr h.outr,hp.drew.chg.cell h.ck h.outk⟩ ?_
 replace hp:=hp.drew
 ((conv=>whnf);repeat' (((with_reducible apply li_id);first|((refine li_of (fun w h=>h.1) ?_))|((refine li_of (fun w h=>h.2.1) ?_))|((refine li_of (fun w h=>h.2.2) ?_)))<;>(conv=>whnf)))
 refine cl_eq (cd1_any hI hq (h.via hp (by simp))) rfl rfl ?_
 rintro r w ⟨x1,p1,f1,hv1,hI1,rfl,hm⟩
 replace hp:=hp.via (j:=1) rfl hm
 dsimp only [List.set] at hp
 clear hm
 refine ⟨_,rfl,?_⟩
 refine cn ⟨hp.chg.cell h.cn h.outn,hp.chg.cell h.cr h.outr,hp.chg.cell h.ck h.outk⟩ ?_
 ((conv=>whnf))
 refine cl_eq (cd1_any hI1 hq (h.via hp (by simp))) rfl rfl ?_
 rintro r w ⟨x2,p2,f2,hv2,hI2,rfl,hm⟩
 replace hp:=hp.via (j:=1) rfl hm
 dsimp only [List.set] at hp
 clear hm
 refine ⟨_,rfl,?_⟩
 refine cn ⟨hp.chg.cell h.cn h.outn,hp.chg.cell h.cr h.outr,hp.chg.cell h.ck h.outk⟩ ?_
 ((conv=>whnf))
 refine cl_eq (rhintI_any hI2 hq (hp.get (j:=1) rfl)) rfl rfl ?_
 rintro r w ⟨x3,p3,f3,hv3,hI3,rfl,hm⟩
 replace hp:=hp.via (j:=1) rfl hm
 dsimp only [List.set] at hp
 clear hm
 refine ⟨_,rfl,?_⟩
 refine cn ⟨hp.chg.cell h.cn h.outn,hp.chg.cell h.cr h.outr,hp.chg.cell h.ck h.outk⟩ ?_
 ((conv=>whnf))
 refine cl_eq (cd2_any hI3 hq (h.via hp (by simp))) rfl rfl ?_
 rintro r w ⟨x4,p4,f4,hv4,hx4,hI4,rfl,hm⟩
 replace hp:=hp.via (j:=1) rfl hm
 dsimp only [List.set] at hp
 clear hm
 refine ⟨_,rfl,?_⟩
 replace hp:=(hp.perm (.swap ..)).split1
 refine cn ⟨hp.chg.cell h.cn h.outn,hp.chg.cell h.cr h.outr,hp.chg.cell h.ck h.outk⟩ ?_
 ((conv=>whnf);repeat' ((first|((with_reducible apply cn_id);first|(refine cn ⟨hp.chg.cell h.cn h.outn,hp.chg.cell h.cr h.outr,hp.chg.cell h.ck h.outk⟩ ?_)|refine cn rfl ?_)|((with_reducible apply ldn_id);apply lda_hs hp;(focus repeat' constructor);exact rfl)|((with_reducible apply st_id);apply sta_hs hp;(focus repeat' constructor);exact rfl;exact rfl;clear hp;intro w hp;(try dsimp only [List.set] at hp))|((with_reducible apply gen_id);(refine gen_build (t:=46) (out:=(Blob.c ⟨⟨x1,x2⟩,x3,x4⟩)) rfl (by kernel_rfl) ?_)))<;>(conv=>whnf)))
 have hv:Rv (rdR blobC.dec s) (Blob.p ⟨⟨x1,x2⟩,x3,x4⟩):=rv_map (rv_seq hv1 (rv_seq hv2 (rv_seq hv3 hv4)))
 have hl:lft (rdR blobC.dec s)=_:=lft_map.trans (lft_seq.trans (lft_seq.trans lft_seq))
 rw [←hl] at hI4
 exact ps_val (v':=Blob.v ⟨⟨x1,x2⟩,x3,x4⟩) rfl ⟨⟨⟨x1,x2⟩,x3,x4⟩,p4,f4,hv,hI4,rfl,(hp.pick [0,1] (by decide) rfl).give⟩
theorem cd6_any (hI:RdI q.l p (badE f) s) (hq:q.l.length≤1000000) (h:RdX pr pn pk b p q f w0):Calls Tryz.prog 78 #[ptr pn,ptr pr,ptr pk] w0 fun e w'=>
  ∃(x:Job) (p':Nat) (f':Flt),Rv (rdR jobC.dec s) x.p∧RdI q.l p' (badE f') (lft (rdR jobC.dec s))∧e= .returned x.v∧Mut (star (rdRs b q p f)) (star (jpayR x::rdRs b q p' f')) w0 w':=by
 have hp:=Hp.start1 h.ok
 refine calls_x (args:= [_,_,_]) tabOk Tryz.func78 Tryz.ntmps78 Tryz.results78 rfl (Nat.le_of_ble_eq_true rfl) ?_
 ((conv=>whnf);repeat' (((with_reducible apply al_id);refine al_cel hp ?_;clear hp;intro bb w hp)<;>(conv=>whnf)))
 obtain ⟨b3,hb3⟩:∃b:Nat,b=bb:=⟨_,rfl⟩
 subst hb3
 obtain ⟨S5,hS5⟩:∃S5,lft (rdR u32C.dec (lft (rdR u32C.dec (lft (rdR idC.dec (lft (rdR u32C.dec (lft (rdR u32C.dec s)))))))))=S5:=⟨_,rfl⟩
 refine dr_cut (fun e w=>∃(J:Job) (bj p5:Nat) (f5:Flt) (e0:Nat→Value),e=eat [(0,ptr pn),(1,ptr pr),(2,ptr pk),(3,ptr b3),(4,ptr bj)] ⟨e0, []⟩∧(J.live= -1∧J.pay=Sl.nil∧Rv (rdR u32C.dec s) J.key.ses∧Rv (rdR u32C.dec (lft (rdR u32C.dec s))) J.key.seq∧Rv (rdR idC.dec (lft (rdR u32C.dec (lft (rdR u32C.dec s))))) J.breach∧Rv (rdR u32C.dec (lft (rdR idC.dec (lft (rdR u32C.dec (lft (rdR u32C.dec s))))))) J.height∧Rv (rdR u32C.dec (lft (rdR u32C.dec (lft (rdR idC.dec (lft (rdR u32C.dec (lft (rdR u32C.dec s))))))))) J.mined)∧RdI q.l p5 (badE f5) S5∧Hp (star (rdRs b q p f)).dom w0 w [cel bj 59 (Job.c J).toArray,cel b3 59 (ag (i_u32::i_u32::i_u8::i_u8::i_u8::i_u8::i_u8::i_u8::i_u8::i_u8::i_u8::i_u8::i_u8::i_u8::i_u8::i_u8::i_u8::i_u8::i_u8::i_u8::i_u8::i_u8::i_u8::i_u8::i_u8::i_u8::i_u8::i_u8::i_u8::i_u8::i_u8::i_u8::i_u8::i_u8::i_u32::i_u32::i_i64::l_:: [])).cells,star (rdRs b q p5 f5)]) ?_ ?_
 ·refine dr_autoi [0,2,5,7,9] (fun w=>w.cell? ⟨pn,0,none⟩=some (fnV pr)∧w.cell? ⟨pr,0,none⟩=some (ptr b)∧w.cell? ⟨pk,0,none⟩=some (fkV pr)) tabOk (by kernel_rfl) (by decide+kernel) rfl ⟨hp.drew.chg.cell h.cn h.outn,hp.drew.chg.cell h.cr h.outr,hp.drew.chg.cell h.ck h.outk⟩ ?_
  replace hp:=hp.drew
  ((conv=>whnf);repeat' ((first|((with_reducible apply cn_id);first|(refine cn ⟨hp.chg.cell h.cn h.outn,hp.chg.cell h.cr h.outr,hp.chg.cell h.ck h.outk⟩ ?_)|refine cn rfl ?_)|((with_reducible apply al_id);refine al_cel hp ?_;clear hp;intro bb w hp)|((with_reducible apply st_id);apply sta_hs hp;(focus repeat' constructor);exact rfl;exact rfl;clear hp;intro w hp;(try dsimp only [List.set] at hp))|((with_reducible apply gen_id);first|(refine gen_build (t:=59) (out:=(Job.c ⟨⟨x1,x2⟩,x3,x4,x5, -1,Sl.nil⟩)) rfl (by kernel_rfl) ?_)|(apply gen_build;exact rfl;exact rfl))|((with_reducible apply fk_id);refine fk_mk ?_ ?_)|((with_reducible apply cl_id);first|((refine cl_eq (cd1_any hI hq (h.via hp (by simp))) rfl rfl ?_;rintro r w ⟨x1,p1,f1,hv1,hI1,rfl,hm⟩;(first|replace hp:=hp.via (j:=1) rfl hm|replace hp:=hp.via (j:=2) rfl hm);dsimp only [List.set] at hp;clear hm;refine ⟨_,rfl,?_⟩;refine cn ⟨hp.chg.cell h.cn h.outn,hp.chg.cell h.cr h.outr,hp.chg.cell h.ck h.outk⟩ ?_))|((refine cl_eq (cd1_any hI1 hq (h.via hp (by simp))) rfl rfl ?_;rintro r w ⟨x2,p2,f2,hv2,hI2,rfl,hm⟩;(first|replace hp:=hp.via (j:=1) rfl hm|replace hp:=hp.via (j:=2) rfl hm);dsimp only [List.set] at hp;clear hm;refine ⟨_,rfl,?_⟩;refine cn ⟨hp.chg.cell h.cn h.outn,hp.chg.cell h.cr h.outr,hp.chg.cell h.ck h.outk⟩ ?_))|((refine cl_eq (ridI_any hI2 hq (hp.ok (star (rdRs b q p2 f2)) (by simp))) rfl rfl ?_;rintro r w ⟨x3,p3,f3,hv3,hI3,rfl,hm⟩;(first|replace hp:=hp.via (j:=1) rfl hm|replace hp:=hp.via (j:=2) rfl hm);dsimp only [List.set] at hp;clear hm;refine ⟨_,rfl,?_⟩;refine cn ⟨hp.chg.cell h.cn h.outn,hp.chg.cell h.cr h.outr,hp.chg.cell h.ck h.outk⟩ ?_))|((refine cl_eq (cd1_any hI3 hq (h.via hp (by simp))) rfl rfl ?_;rintro r w ⟨x4,p4,f4,hv4,hI4,rfl,hm⟩;(first|replace hp:=hp.via (j:=1) rfl hm|replace hp:=hp.via (j:=2) rfl hm);dsimp only [List.set] at hp;clear hm;refine ⟨_,rfl,?_⟩;refine cn ⟨hp.chg.cell h.cn h.outn,hp.chg.cell h.cr h.outr,hp.chg.cell h.ck h.outk⟩ ?_))|((refine cl_eq (cd1_any hI4 hq (h.via hp (by simp))) rfl rfl ?_;rintro r w ⟨x5,p5,f5,hv5,hI5,rfl,hm⟩;(first|replace hp:=hp.via (j:=1) rfl hm|replace hp:=hp.via (j:=2) rfl hm);dsimp only [List.set] at hp;clear hm;refine ⟨_,rfl,?_⟩;refine cn ⟨hp.chg.cell h.cn h.outn,hp.chg.cell h.cr h.outr,hp.chg.cell h.ck h.outk⟩ ?_)))|((with_reducible apply li_id);first|((refine li_of (fun w h=>h.1) ?_))|((refine li_of (fun w h=>h.2.1) ?_))))<;>(conv=>whnf)))
  all_goals exact ⟨⟨⟨x1,x2⟩,x3,x4,x5, -1,Sl.nil⟩,_,p5,f5,_,eat_holds (by (repeat' (first|exact trivial|(refine ⟨rfl,?_⟩)))),⟨rfl,rfl,hv1,hv2,hv3,hv4,hv5⟩,by rw [←hS5];exact hI5,hp⟩
 clear hp
 rintro e w ⟨⟨⟨j1,j2⟩,j3,j4,j5,j6,j7⟩,bj,p5,f5,e0,rfl,⟨hjl,hjp,hv1,hv2,hv3,hv4,hv5⟩,hI5,hp⟩
 dsimp only at hjl hjp hv1 hv2 hv3 hv4 hv5
 subst hjl hjp
 ((conv=>whnf);repeat' (((with_reducible apply ld_id);(refine ld_of (hp.chg.cell h.ck h.outk) ?_))<;>(conv=>whnf)))
 refine cl_eq (cd2_any hI5 hq (h.via hp (by simp))) rfl rfl ?_
 rintro r w ⟨xb,p6,f6,hv6,hx6,hI6,rfl,hm⟩
 replace hp:=hp.via (j:=2) rfl hm
 dsimp only [List.set] at hp
 clear hm
 refine ⟨_,rfl,?_⟩
 have he6:=fun {w:World} (hc:(star (rdRs b q p6 f6)).ok w)=>rerrI_any hI6 hc
 have hlp:=lft_pck (F:=payF) hv6
 have hl:lft (rdR jobC.dec s)=_:=lft_map.trans (lft_seq.trans (lft_seq.trans (lft_seq.trans (lft_seq.trans lft_seq))))
 rw [hS5,hlp] at hl
 have hv:∀y,Rv (rdR (pckC N2 payF).dec S5) y→Rv (rdR jobC.dec s) ⟨⟨j1,j2⟩,j3,j4,j5, -1,y⟩:=fun y hy=>rv_map (rv_seq hv1 (rv_seq hv2 (rv_seq hv3 (rv_seq hv4 (rv_seq hv5 (by rw [hS5];exact hy))))))
 replace hp:=(hp.pick (rs':= [_,_,_]) [2,0,1] (by decide) rfl).split1
 ((conv=>whnf);repeat' ((first|((with_reducible apply br_id);(with_reducible refine br_eq (fun hx=>?_) (fun hx=>?_))<;>(try (exfalso;first|omega|contradiction)))|((with_reducible apply cn_id);refine cn rfl ?_)|((with_reducible apply ld_id);(refine ld_of (hp.chg.cell h.cr h.outr) ?_))|((with_reducible apply ldn_id);apply lda_hs hp;(focus repeat' constructor);exact rfl)|((with_reducible apply st_id);apply sta_hs hp;(focus repeat' constructor);exact rfl;exact rfl;clear hp;intro w hp;(try dsimp only [List.set] at hp))|((with_reducible apply cl_id);(refine cl_eq ((he6 (hp.get (j:=1) rfl))) rfl rfl ?_;rintro e w ⟨rfl,hcc⟩;replace hp:=hp.call0 hcc;refine ⟨_,rfl,?_⟩)))<;>(conv=>whnf)))
 ·refine cl_eq (decode_any (hp.row (j:=0) rfl) (by omega)) rfl rfl ?_
  rintro r w ⟨y,hy,rfl,hm⟩
  replace hp:=hp.add hm
  clear hm
  refine ⟨_,rfl,?_⟩
  have hc:=dec_cod xb.l
  have hd:payF.dec xb.l=if (dec xb.l).2=0 then .ok (dec xb.l).1 else .error (dec xb.l).2:=rfl
  rw [←hy] at hd
  obtain ⟨c,hcc2⟩:∃c,(dec xb.l).2=c:=⟨_,rfl⟩
  rw [hcc2] at hc hd ⊢
  rw [hd,cod_if] at hl
  have hvp:Rv (rdR (pckC N2 payF).dec S5) (y.l.map tk):=rv_pck hv6 fun a ha=>by
   rw [hd] at ha
   split at ha
   ·cases ha
    rfl
   ·cases ha
  replace hv:=hv _ hvp
  clear hvp hd hlp hcc2 hy
  ((conv=>whnf);repeat' ((first|((with_reducible apply cn_id);refine cn rfl ?_)|((with_reducible apply ld_id);(refine ld_of (hp.chg.cell h.cr h.outr) ?_))|((with_reducible apply al_id);refine al_cel hp ?_;clear hp;intro bb w hp)|((with_reducible apply st_id);apply sta_hs hp;(focus repeat' constructor);exact rfl;exact rfl;clear hp;intro w hp;(try dsimp only [List.set] at hp)))<;>(conv=>whnf)))
  refine cl_eq (rfailI_any c hc hI6 (hp.get (j:=3) rfl)) rfl rfl ?_
  rintro r w ⟨f7,hI7,rfl,hm⟩
  replace hp:=hp.via (j:=3) rfl hm
  dsimp only [List.set] at hp
  clear hm
  refine ⟨_,rfl,?_⟩
  rw [←hl] at hI7
  ((conv=>whnf);repeat' ((first|((with_reducible apply cn_id);refine cn rfl ?_)|((with_reducible apply ldn_id);apply lda_hs hp;(focus repeat' constructor);exact rfl)|((with_reducible apply st_id);first|(apply sta_hs hp;(focus repeat' constructor);exact rfl;exact rfl;clear hp;intro w hp;(try dsimp only [List.set] at hp))|(apply st_hs hp;(focus repeat' constructor);exact rfl;exact rfl;clear hp;intro w hp;(try dsimp only [List.set] at hp))))<;>(conv=>whnf)))
  exact ps_val (v':=Job.v ⟨⟨j1,j2⟩,j3,j4,j5, -1,y⟩) rfl ⟨⟨⟨j1,j2⟩,j3,j4,j5, -1,y⟩,p6,f7,hv,hI7,rfl,(hp.pick [1,3] (by decide) rfl).give⟩
 ·rename_i hx _ _
  exact ps_val (v':=Job.v ⟨⟨j1,j2⟩,j3,j4,j5, -1,Sl.nil⟩) rfl ⟨⟨⟨j1,j2⟩,j3,j4,j5, -1,Sl.nil⟩,p6,f6,hv _ (rv_pckbad hx),by rw [hl,fld_bad hx];exact hI6,rfl,(((hp.nilRow 88 2 Tier.c).fold 1).pick [0,2] (by decide) rfl).give⟩
end
set_option maxHeartbeats 2000000
def blN (b:Blob):Nat:=10+b.data.l.length
def wiN (b:Blk):Nat:=10+b.tx.l.length
def fewN (x:Sta):Nat:=x.ses.l.length+(x.blobs.l.map blN).sum+(x.win.l.map wiN).sum+10*x.jobs.l.length
def fewS (x:Sta):Bool:=x.jobs.l.all (fun j=>fewP j.pay) && decide (fewN x≤6000)
theorem sum_step {α:Type} {l:List α} {i:Nat} {x:α} (f:α→Nat) (h:l[i]? =some x):((l.take (i+1)).map f).sum=((l.take i).map f).sum+f x:=by
 rw [List.take_add_one,h]
 simp
theorem sum_len {α:Type} {f:α→Nat} {M:Nat}:∀{l:List α},(∀x∈l,f x≤M)→(l.map f).sum≤l.length*M
 | [],_=>by simp
 |x::l,h=>by
  have h1:=h x (by simp)
  have h2:=sum_len (l:=l) fun y hy=>h y (by simp [hy])
  rw [List.map_cons,List.sum_cons,List.length_cons,Nat.succ_mul]
  omega
theorem sum_mem {α:Type} {f:α→Nat}:∀{l:List α} {x:α},x∈l→f x≤(l.map f).sum
 |y::l,x,h=>by
  rw [List.map_cons,List.sum_cons]
  rcases List.mem_cons.1 h with rfl|h
  ·omega
  ·have:=sum_mem (f:=f) h
   omega
theorem sum_ge {α:Type} {f:α→Nat} {m:Nat}:∀{l:List α},(∀x∈l,m≤f x)→l.length*m≤(l.map f).sum
 | [],_=>by simp
 |x::l,h=>by
  have h1:=h x (by simp)
  have h2:=sum_ge (l:=l) fun y hy=>h y (by simp [hy])
  rw [List.map_cons,List.sum_cons,List.length_cons,Nat.succ_mul]
  omega
structure FewI (x:Sta):Prop where
 ses:x.ses.l.length≤6000
 blobs:x.blobs.l.length≤600
 win:x.win.l.length≤600
 jobs:x.jobs.l.length≤600
 data:∀b∈x.blobs.l,b.data.l.length≤8000
 tx:∀b∈x.win.l,b.tx.l.length≤6000
 pay:∀j∈x.jobs.l,fewP j.pay=true
theorem fewS_at {x:Sta} (h:fewS x=true):FewI x:=by
 unfold fewS at h
 rw [Bool.and_eq_true,List.all_eq_true,decide_eq_true_eq] at h
 obtain ⟨h1,h2⟩:=h
 unfold fewN at h2
 have h3:=sum_ge (f:=blN) (m:=10) (l:=x.blobs.l) fun y _=>Nat.le_add_right _ _
 have h4:=sum_ge (f:=wiN) (m:=10) (l:=x.win.l) fun y _=>Nat.le_add_right _ _
 refine ⟨by omega,by omega,by omega,by omega,fun b hb=>?_,fun b hb=>?_,h1⟩
 ·have:=sum_mem (f:=blN) hb
  have e:blN b=10+b.data.l.length:=rfl
  omega
 ·have:=sum_mem (f:=wiN) hb
  have e:wiN b=10+b.tx.l.length:=rfl
  omega
theorem few31_any {B:Nat} {w0:World} {x:Sta} (h:StaAt B w0 x) (hb:StaB 1048576 x):Calls Tryz.prog 5 #[x.v] w0 fun e w'=>e= .returned (.bool (fewS x))∧Chg N0 w0 w':=by
 have hp:=Hp.start (S:=N0) w0
 have hB:∀b,N0 b→B≤b:=fun _ hh=>hh.elim
 have u1:=Tryz.underlying27
 have u2:=Tryz.underlying28
 have u3:=Tryz.underlying26
 have u4:=Tryz.underlying29
 have u5:=Tryz.underlying34
 have u6:=Tryz.underlying49
 have hs1:=hb.ses
 have hs2:=hb.blobs
 have hs3:=hb.win
 have hs4:=hb.jobs
 have ht1:∀i,((x.blobs.l.take i).map blN).sum≤1048576*1048586:=fun i=>by
  refine Nat.le_trans (sum_len (M:=1048586) fun y hy=>?_) (Nat.mul_le_mul_right _ (Nat.le_trans (List.length_take_le' ..) hs2))
  have:=hb.data y (List.mem_of_mem_take hy)
  unfold blN
  omega
 have ht2:∀i,((x.win.l.take i).map wiN).sum≤1048576*1048586:=fun i=>by
  refine Nat.le_trans (sum_len (M:=1048586) fun y hy=>?_) (Nat.mul_le_mul_right _ (Nat.le_trans (List.length_take_le' ..) hs3))
  have:=hb.tx y (List.mem_of_mem_take hy)
  unfold wiN
  omega
 obtain ⟨N1,hN1⟩:∃n,(x.blobs.l.map blN).sum=n:=⟨_,rfl⟩
 obtain ⟨N2,hN2⟩:∃n,(x.win.l.map wiN).sum=n:=⟨_,rfl⟩
 have hN1b:N1≤1048576*1048586:=by have:=ht1 x.blobs.l.length;rw [List.take_length,hN1] at this;exact this
 have hN2b:N2≤1048576*1048586:=by have:=ht2 x.win.l.length;rw [List.take_length,hN2] at this;exact this
 refine calls_x (args:= [_]) tabOk Tryz.func5 Tryz.ntmps5 Tryz.results5 rfl (Nat.le_of_ble_eq_true rfl) ?_
 ((conv=>whnf);repeat' ((first|((with_reducible apply ld_id);apply ld_hs hp;(focus repeat' constructor);exact rfl)|((with_reducible apply al_id);refine al_cel hp ?_;clear hp;intro bb w hp)|((with_reducible apply gen_id);apply gen_len;exact rfl;exact rfl;assumption))<;>(conv=>whnf)))
 refine lp_inv (α:=Nat) (fun i=> [(1,ptr bb),(3,i64 (x.ses.l.length+((x.blobs.l.take i).map blN).sum:Nat)),(4,i64 i)]) (fun i w=>i≤x.blobs.l.length∧Hp N0 w0 w [cel bb 31 x.c.toArray]) (fun i=>x.blobs.l.length - i) 0 (by (repeat' (first|exact trivial|(refine ⟨rfl,?_⟩)))) ⟨by omega,hp⟩ ?_
 clear hp
 rintro i e0 w ⟨hi,hp⟩
 dsimp only at hi hp ⊢
 have hn:=ht1 i
 rcases Nat.lt_or_ge i x.blobs.l.length with hlt|hge
 ·obtain ⟨b,o,y,hA,hbb,hrow,hyy⟩:=h.blobs.row.has hlt
  have hy:=hb.data y (List.mem_of_getElem? hyy)
  have hst:=sum_step blN hyy
  have hd:blN y=10+y.data.l.length:=rfl
  generalize ((x.blobs.l.take i).map blN).sum=n at hn hst ⊢
  ((conv=>whnf);repeat' ((first|((with_reducible apply br_id);(with_reducible refine br_dec (fun hx=>?_) (fun hx=>?_))<;>(try (exfalso;first|omega|contradiction)))|((with_reducible apply ar_id);first|(refine ar_n ((x.ses.l.length+n+10+y.data.l.length)) (by omega) (by omega) ?_)|(refine ar_n ((x.ses.l.length+n+10)) (by omega) (by omega) ?_)|refine ar_i64 (by omega) ?_)|((with_reducible apply ld_id);first|(refine ld_row hp hB ‹_› ‹_› _ _ rfl ‹_› (by rfl) ?_)|(apply ld_hs hp;(focus repeat' constructor);exact rfl))|((with_reducible apply gen_id);first|(refine gen_ixs rfl rfl ‹_› rfl rfl (by omega) ?_)|(apply gen_len;exact rfl;exact rfl;assumption)))<;>(conv=>whnf)))
  exact lp_next (i+1) (by show x.blobs.l.length - (i+1) < x.blobs.l.length - i;omega) ⟨rfl,by show i64 _=i64 _;rw [hst,hd];congr 1;omega,rfl,trivial⟩ ⟨by show i+1≤_;omega,hp⟩
 rw [List.take_of_length_le hge,hN1]
 clear hn
 ((conv=>whnf);repeat' ((first|((with_reducible apply br_id);(with_reducible refine br_dec (fun hx=>?_) (fun hx=>?_))<;>(try (exfalso;first|omega|contradiction)))|((with_reducible apply ld_id);apply ld_hs hp;(focus repeat' constructor);exact rfl)|((with_reducible apply gen_id);apply gen_len;exact rfl;exact rfl;assumption))<;>(conv=>whnf)))
 refine lp_inv (α:=Nat) (fun i=> [(1,ptr bb),(3,i64 (x.ses.l.length+N1+((x.win.l.take i).map wiN).sum:Nat)),(5,i64 i)]) (fun i w=>i≤x.win.l.length∧Hp N0 w0 w [cel bb 31 x.c.toArray]) (fun i=>x.win.l.length - i) 0 (by (repeat' (first|exact trivial|(refine ⟨rfl,?_⟩)))) ⟨by omega,hp⟩ ?_
 clear hp hi hge
 rintro i e0 w ⟨hi,hp⟩
 dsimp only at hi hp ⊢
 have hn:=ht2 i
 rcases Nat.lt_or_ge i x.win.l.length with hlt|hge
 ·obtain ⟨b,o,y,hA,hbb,hrow,hyy⟩:=h.win.has hlt
  have hy:=hb.tx y (List.mem_of_getElem? hyy)
  have hst:=sum_step wiN hyy
  have hd:wiN y=10+y.tx.l.length:=rfl
  generalize ((x.win.l.take i).map wiN).sum=n at hn hst ⊢
  ((conv=>whnf);repeat' ((first|((with_reducible apply br_id);(with_reducible refine br_dec (fun hx=>?_) (fun hx=>?_))<;>(try (exfalso;first|omega|contradiction)))|((with_reducible apply ar_id);first|(refine ar_n ((x.ses.l.length+N1+n+10+y.tx.l.length)) (by omega) (by omega) ?_)|(refine ar_n ((x.ses.l.length+N1+n+10)) (by omega) (by omega) ?_)|refine ar_i64 (by omega) ?_)|((with_reducible apply ld_id);first|(refine ld_row hp hB ‹_› ‹_› _ _ rfl ‹_› (by rfl) ?_)|(apply ld_hs hp;(focus repeat' constructor);exact rfl))|((with_reducible apply gen_id);first|(refine gen_ixs rfl rfl ‹_› rfl rfl (by omega) ?_)|(apply gen_len;exact rfl;exact rfl;assumption)))<;>(conv=>whnf)))
  exact lp_next (i+1) (by show x.win.l.length - (i+1) < x.win.l.length - i;omega) ⟨rfl,by show i64 _=i64 _;rw [hst,hd];congr 1;omega,rfl,trivial⟩ ⟨by show i+1≤_;omega,hp⟩
 rw [List.take_of_length_le hge,hN2]
 clear hn
 ((conv=>whnf);repeat' ((first|((with_reducible apply br_id);(with_reducible refine br_dec (fun hx=>?_) (fun hx=>?_))<;>(try (exfalso;first|omega|contradiction)))|((with_reducible apply ld_id);apply ld_hs hp;(focus repeat' constructor);exact rfl)|((with_reducible apply gen_id);apply gen_len;exact rfl;exact rfl;assumption))<;>(conv=>whnf)))
 refine lp_inv (α:=Nat) (fun i=> [(1,ptr bb),(3,i64 (x.ses.l.length+N1+N2+10*i:Nat)),(6,i64 i)]) (fun i w=>i≤x.jobs.l.length∧(∀j∈x.jobs.l.take i,fewP j.pay=true)∧Hp N0 w0 w [cel bb 31 x.c.toArray]) (fun i=>x.jobs.l.length - i) 0 (by (repeat' (first|exact trivial|(refine ⟨rfl,?_⟩)))) ⟨by omega,by simp,hp⟩ ?_
 clear hp hi hge
 rintro i e0 w ⟨hi,hall,hp⟩
 dsimp only at hi hall hp ⊢
 rcases Nat.lt_or_ge i x.jobs.l.length with hlt|hge
 ·obtain ⟨b,o,y,hA,hbb,hrow,hyy⟩:=h.jobs.has hlt
  have hmem:=List.mem_of_getElem? hyy
  have hpy:=h.pay y hmem
  have hpl:((Job.c y).drop 37).take 1= [y.pay.v]:=rfl
  obtain ⟨q,hq⟩:∃q,fewP y.pay=q:=⟨_,rfl⟩
  have hf:∀{w:World},Chg N0 w0 w→Calls Tryz.prog 15 #[y.pay.pv] w fun e w'=>e= .returned (.bool q)∧Chg N0 w w':=fun hc=>by rw [←hq];exact few13_any (hpy.keep hc hB)
  cases q with
  |false=>
   ((conv=>whnf);repeat' ((first|((with_reducible apply br_id);first|with_reducible refine br_f ?_|with_reducible refine br_not ?_|((with_reducible refine br_dec (fun hx=>?_) (fun hx=>?_))<;>(try (exfalso;first|omega|contradiction))))|((with_reducible apply ld_id);apply ld_hs hp;(focus repeat' constructor);exact rfl)|((with_reducible apply ldn_id);(refine ldn_row hp hB ‹_› ‹_› _ _ rfl ‹_› (by rfl) (by rfl) ?_))|((with_reducible apply gen_id);first|(refine gen_ixs rfl rfl ‹_› rfl rfl (by omega) ?_)|(apply gen_len;exact rfl;exact rfl;assumption))|((with_reducible apply cl_id);(refine cl_eq ((hf hp.chg)) rfl rfl ?_;rintro e w ⟨rfl,hcc⟩;replace hp:=hp.call0 hcc;refine ⟨_,rfl,?_⟩)))<;>(conv=>whnf)))
   refine ps_val (v':= .bool false) rfl ⟨?_,hp.chg⟩
   have:fewS x=false:=by
    unfold fewS
    rw [Bool.and_eq_false_iff]
    exact .inl (List.all_eq_false.2 ⟨y,hmem,by rw [hq];simp⟩)
   rw [this]
  |true=>
   ((conv=>whnf);repeat' ((first|((with_reducible apply br_id);first|with_reducible refine br_t ?_|with_reducible refine br_not ?_|((with_reducible refine br_dec (fun hx=>?_) (fun hx=>?_))<;>(try (exfalso;first|omega|contradiction))))|((with_reducible apply ar_id);first|(refine ar_n ((x.ses.l.length+N1+N2+10*(i+1))) (by omega) (by omega) ?_)|refine ar_i64 (by omega) ?_)|((with_reducible apply ld_id);apply ld_hs hp;(focus repeat' constructor);exact rfl)|((with_reducible apply ldn_id);(refine ldn_row hp hB ‹_› ‹_› _ _ rfl ‹_› (by rfl) (by rfl) ?_))|((with_reducible apply gen_id);first|(refine gen_ixs rfl rfl ‹_› rfl rfl (by omega) ?_)|(apply gen_len;exact rfl;exact rfl;assumption))|((with_reducible apply cl_id);(refine cl_eq ((hf hp.chg)) rfl rfl ?_;rintro e w ⟨rfl,hcc⟩;replace hp:=hp.call0 hcc;refine ⟨_,rfl,?_⟩)))<;>(conv=>whnf)))
   refine lp_next (i+1) (by show x.jobs.l.length - (i+1) < x.jobs.l.length - i;omega) (by (repeat' (first|exact trivial|(refine ⟨rfl,?_⟩)))) ⟨by show i+1≤_;omega,fun j hj=>?_,hp⟩
   rw [List.take_add_one,hyy] at hj
   rcases List.mem_append.1 hj with hj|hj
   ·exact hall j hj
   ·simp at hj
    subst hj
    exact hq
 ·rw [List.take_of_length_le hge] at hall
  have:i=x.jobs.l.length:=by omega
  subst this
  ((conv=>whnf);repeat' ((first|((with_reducible apply br_id);(with_reducible refine br_dec (fun hx=>?_) (fun hx=>?_))<;>(try (exfalso;first|omega|contradiction)))|((with_reducible apply ld_id);apply ld_hs hp;(focus repeat' constructor);exact rfl)|((with_reducible apply gen_id);apply gen_len;exact rfl;exact rfl;assumption))<;>(conv=>whnf)))
  refine ps_val (v':= .bool (decide (((x.ses.l.length+N1+N2+10*x.jobs.l.length:Nat):Int)≤6000))) rfl ⟨?_,hp.chg⟩
  have:fewS x=decide (((x.ses.l.length+N1+N2+10*x.jobs.l.length:Nat):Int)≤6000):=by
   unfold fewS
   rw [List.all_eq_true.2 hall,Bool.true_and]
   refine decide_eq_decide.2 ?_
   unfold fewN
   rw [hN1,hN2]
   omega
  rw [this]
theorem copy_any {B:Nat} {w0:World} {b:Blk} (h:SlAt B w0 Id.c 32 b.tx) (hn:b.tx.l.length≤1000000):Calls Tryz.prog 129 #[b.v] w0 fun e w'=>∃s:Sl Id,s.l=b.tx.l∧e= .returned ({b with tx:=s}:Blk).v∧Made (rowR 48 32 Id.c s) w0 w':=by
 have hp:=Hp.start (S:=N0) w0
 have hB:∀b,N0 b→B≤b:=fun _ hh=>hh.elim
 have u1:=Tryz.underlying49
 refine calls_x (args:= [_]) tabOk Tryz.func129 Tryz.ntmps129 Tryz.results129 rfl (Nat.le_of_ble_eq_true rfl) ?_
 ((conv=>whnf);repeat' ((first|((with_reducible apply cn_id);refine cn rfl ?_)|((with_reducible apply ld_id);apply ld_hs hp;(focus repeat' constructor);exact rfl)|((with_reducible apply ldn_id);apply lda_hs hp;(focus repeat' constructor);exact rfl)|((with_reducible apply al_id);refine al_cel hp ?_;clear hp;intro bb w hp)|((with_reducible apply st_id);first|(apply sta_hs hp;(focus repeat' constructor);exact rfl;exact rfl;clear hp;intro w hp;(try dsimp only [List.set] at hp))|(apply st_hs hp;(focus repeat' constructor);exact rfl;exact rfl;clear hp;intro w hp;(try dsimp only [List.set] at hp)))|((with_reducible apply gen_id);(refine gen_app0 rfl hp el_id rfl b.tx rfl (h.keep hp.chg hB) (fun _ _=>rfl) idL_one (by omega) (by simp only [maxLen];omega) ?_);clear hp;intro A' c' w hg hp))<;>(conv=>whnf)))
 exact ps_val (v':=({b with tx:=⟨A',c',b.tx.l⟩}:Blk).v) rfl ⟨⟨A',c',b.tx.l⟩,rfl,rfl,hp.made1 (j:=0) rfl⟩
set_option maxHeartbeats 4000000
def Sta.z:Sta:=⟨⟨0,0,0,0,0,0⟩,0,0,0,Sl.nil,Sl.nil,Sl.nil,Sl.nil⟩
theorem el_blkR:ElT Tryz.prog 26 51 65 88:=elt_of (z:=Blk.v ⟨Id.z,Id.z,Sl.nil⟩) Tryz.underlying26 (by kernel_rfl) rfl (by omega)
theorem blk_oneR {l:List Blk}:∀x∈l,∀u∈Blk.c x,u.oneCell'=true:=fun x _ u hu=>List.all_eq_true.1 (show (Blk.c x).all Value.oneCell'=true from rfl) u hu
def restB (j:Job):Job:={j with live:= -1}
theorem half_set {α:Type} {f:α→α} {l:List α} {i:Nat} {y:α} (h:l[i]? =some y):((l.take i).map f++l.drop i).set i (f y)=(l.take (i+1)).map f++l.drop (i+1)∧((l.take i).map f++l.drop i)[i]? =some y:=by
 have hlt:i < l.length:=(List.getElem?_eq_some_iff.1 h).1
 have hl:((l.take i).map f).length=i:=by rw [List.length_map,List.length_take];omega
 have hd:l.drop i=y::l.drop (i+1):=by
  rw [List.drop_eq_getElem_cons hlt]
  rw [List.getElem?_eq_getElem hlt] at h
  rw [Option.some.inj h]
 constructor
 ·rw [List.set_append_right _ _ (by omega),hl,Nat.sub_self,hd,List.set_cons_zero,List.take_add_one,h,List.map_append]
  simp
 ·rw [List.getElem?_append_right (by omega),hl,Nat.sub_self,hd]
  rfl
theorem rrested_any {B:Nat} {w0:World} {x:Sta} (h:StaAt B w0 x) (hn:x.jobs.l.length≤600):Calls Tryz.prog 12 #[x.v] w0 fun e w'=>∃J:Sl Job,J.l=x.jobs.l.map restB∧e= .returned (Sta.v {x with jobs:=J})∧Made (rowR 59 38 Job.c J) w0 w':=by
 have hp:=Hp.start (S:=N0) w0
 have hB:∀b,N0 b→B≤b:=fun _ hh=>hh.elim
 have u4:=Tryz.underlying29
 refine calls_x (args:= [_]) tabOk Tryz.func12 Tryz.ntmps12 Tryz.results12 rfl (Nat.le_of_ble_eq_true rfl) ?_
 ((conv=>whnf);repeat' ((first|((with_reducible apply ld_id);apply ld_hs hp;(focus repeat' constructor);exact rfl)|((with_reducible apply al_id);refine al_cel hp ?_;clear hp;intro bb w hp)|((with_reducible apply gen_id);first|((refine gen_bs rfl hp el_job Job.c [] [] rfl rfl rfl (fun _ hh=>by cases hh) (by omega) ?_);clear hp;intro br w hp)|((refine gen_app (s:=⟨some ⟨br,0,none⟩,0, []⟩) rfl hp 0 rfl el_job rfl x.jobs rfl (h.jobs.keep hp.chg hB) (fun _ _=>rfl) job_one (by simp only [List.length_nil];omega) (by simp only [maxLen,List.length_nil];omega) ?_);clear hp;intro A2 c2 w hp;dsimp only [List.set] at hp)))<;>(conv=>whnf)))
 obtain ⟨b2,hb2⟩:∃b,b=bb:=⟨_,rfl⟩
 subst hb2
 obtain ⟨b1,hb1⟩:∃b,b=bb:=⟨_,rfl⟩
 subst hb1
 refine lp_inv (α:=Nat) (fun i=> [(1,ptr b1),(2,ptr b2),(3, .slice A2 x.jobs.l.length c2),(4,i64 i)]) (fun i w=>i≤x.jobs.l.length∧Hp N0 w0 w [rowR 59 38 Job.c ⟨A2,c2,(x.jobs.l.take i).map restB++x.jobs.l.drop i⟩,cel b2 31 (Sta.c Sta.z).toArray,cel b1 31 x.c.toArray]) (fun i=>x.jobs.l.length - i) 0 (by (repeat' (first|exact trivial|(refine ⟨rfl,?_⟩)))) ⟨by omega,hp⟩ ?_
 clear hp
 rintro i e0 w ⟨hi,hp⟩
 dsimp only at hi hp ⊢
 rcases Nat.lt_or_ge i x.jobs.l.length with hlt|hge
 ·have hyy:=List.getElem?_eq_getElem hlt
  obtain ⟨h1,h2⟩:=half_set (f:=restB) hyy
  generalize x.jobs.l[i]=y at hyy h1 h2
  have hll:((x.jobs.l.take i).map restB++x.jobs.l.drop i).length=x.jobs.l.length:=by simp;omega
  obtain ⟨b,o,z,hA,hbb,hrow,hzz⟩:=(hp.row (j:=0) rfl).has (i:=i) (by show i < ((x.jobs.l.take i).map restB++x.jobs.l.drop i).length;omega)
  have hA':A2=some ⟨b,o,none⟩:=hA
  have st_half:∀{a:Addr} {k:World→Prop},a=⟨b,o+i*38+36,none⟩→(∀w',Hp N0 w0 w' [rowR 59 38 Job.c ⟨A2,c2,(x.jobs.l.take (i+1)).map restB++x.jobs.l.drop (i+1)⟩,cel b2 31 (Sta.c Sta.z).toArray,cel b1 31 x.c.toArray]→k w')→St w a [i64 (-1)] k:=fun ha hk=>by
   refine st_own hp 0 rfl hA' i 36 ha h2 (restB y) rfl (by simp) rfl fun w' hp'=>hk w' ?_
   dsimp only [List.set] at hp'
   rwa [h1] at hp'
  ((conv=>whnf);repeat' ((first|((with_reducible apply br_id);(with_reducible refine br_dec (fun hx=>?_) (fun hx=>?_))<;>(try (exfalso;first|omega|contradiction)))|((with_reducible apply ar_id);refine ar_i64 (by omega) ?_)|((with_reducible apply cn_id);refine cn rfl ?_)|((with_reducible apply st_id);(refine st_half rfl ?_);clear hp;intro w hp)|((with_reducible apply gen_id);first|(refine gen_ixs rfl rfl hA' rfl rfl (by omega) ?_)|(apply gen_len;exact rfl;exact rfl;assumption)))<;>(conv=>whnf)))
  exact lp_next (i+1) (by show x.jobs.l.length - (i+1) < x.jobs.l.length - i;omega) (by (repeat' (first|exact trivial|(refine ⟨rfl,?_⟩)))) ⟨by show i+1≤_;omega,hp⟩
 ·have hJ:(x.jobs.l.take i).map restB++x.jobs.l.drop i=x.jobs.l.map restB:=by rw [List.take_of_length_le hge,List.drop_of_length_le hge,List.append_nil]
  rw [hJ] at hp
  have hll:(x.jobs.l.map restB).length=x.jobs.l.length:=by simp
  ((conv=>whnf);repeat' ((first|((with_reducible apply br_id);(with_reducible refine br_dec (fun hx=>?_) (fun hx=>?_))<;>(try (exfalso;first|omega|contradiction)))|((with_reducible apply cn_id);refine cn rfl ?_)|((with_reducible apply ldn_id);apply lda_hs hp;(focus repeat' constructor);exact rfl)|((with_reducible apply st_id);first|(apply sta_hs hp;(focus repeat' constructor);exact rfl;exact rfl;clear hp;intro w hp;(try dsimp only [List.set] at hp))|(apply st_hs hp;(focus repeat' constructor);exact rfl;exact rfl;clear hp;intro w hp;(try dsimp only [List.set] at hp)))|((with_reducible apply gen_id);apply gen_len;exact rfl;exact rfl;assumption))<;>(conv=>whnf)))
  refine ps_val (v':=Sta.v {x with jobs:=⟨A2,c2,x.jobs.l.map restB⟩}) ?_ ⟨⟨A2,c2,x.jobs.l.map restB⟩,rfl,rfl,hp.made1 (j:=0) rfl⟩
  unfold Sta.v Sl.v
  rw [hll]
  rfl
end Go.Proofs.YtpbapnlnheahnaaGreatDoor
