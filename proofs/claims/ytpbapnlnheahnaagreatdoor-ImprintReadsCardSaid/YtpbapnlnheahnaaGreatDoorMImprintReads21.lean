/- MImprintReads21: parts of the proof of ImprintReads: Dec3, StaFew, Idx, Blk2, Rested, Take. No condition of their own. -/
import Derived.Test.YtpbapnlnheahnaaGreatDoorMImprintReads20
import Derived.Test.YtpbapnlnheahnaaGreatDoorMImprintReads13
import Derived.Test.YtpbapnlnheahnaaGreatDoorMImprintReads12
import Derived.Test.YtpbapnlnheahnaaGreatDoorMImprintReads6
import Derived.Test.YtpbapnlnheahnaaGreatDoorMImprintReads14
import Derived.Test.YtpbapnlnheahnaaGreatDoorMImprintReads19
import Derived.Test.YtpbapnlnheahnaaGreatDoorMImprintReads16
import Derived.Test.YtpbapnlnheahnaaGreatDoorMImprintReads8
import Derived.Test.YtpbapnlnheahnaaGreatDoorMImprintReads15
set_option linter.unusedSimpArgs false
set_option linter.unusedVariables false
namespace Go.Proofs.YtpbapnlnheahnaaGreatDoor
open Go.RowKit Go.Stop
set_option maxRecDepth 100000
set_option maxHeartbeats 500000
theorem dec1_cod {l:List UInt8} {ts:List TkV} {e:Int} (h:dec1 l ts= .error e):e=2∨e=4:=by
 unfold dec1 at h
 split at h
 ·cases h;exact .inl rfl
 ·split at h
  ·cases h;exact .inr rfl
  ·split at h
   ·cases h;exact .inl rfl
   ·split at h
    ·cases h;exact .inr rfl
    ·split at h
     ·cases h;exact .inl rfl
     ·cases h
theorem decA_cod:∀{n:Nat} {l:List UInt8} {ts:List TkV} {e:Int},decA n l ts= .error e→e=2∨e=4
 |0,_,_,_,h=>by cases h
 |n+1,l,ts,e,h=>by
  unfold decA at h
  cases hd:dec1 l ts with
  |error e'=>
   rw [hd] at h
   cases h
   exact dec1_cod hd
  |ok u=>
   rw [hd] at h
   exact decA_cod h
theorem dec_cod (l:List UInt8):(dec l).2=0∨1≤(dec l).2∧(dec l).2≤4:=by
 unfold dec
 split
 ·exact .inr (by decide)
 ·split
  ·exact .inr (by decide)
  ·rename_i m r _
   cases hd:decA m.toNat r [] with
   |error e=>
    have:=decA_cod hd
    show e=0∨1≤e∧e≤4
    omega
   |ok u=>
    unfold decE
    dsimp only
    split
    ·exact .inl rfl
    ·exact .inr (by decide)
section
variable {pr pn pk b p : Nat} {q : Sl UInt8} {f : Flt} {s : Rst} {w0 : World}
theorem cd5_any (hI:RdI q.l p (badE f) s) (hq:q.l.length≤1000000) (h:RdX pr pn pk b p q f w0):Calls Tryz.prog 75 #[ptr pn,ptr pr,ptr pk] w0 fun e w'=>
  ∃(x:Blob) (p':Nat) (f':Flt),Rv (rdR blobC.dec s) x.p∧RdI q.l p' (badE f') (lft (rdR blobC.dec s))∧e= .returned x.v∧Mut (star (rdRs b q p f)) (star (bdatR x::rdRs b q p' f')) w0 w':=by
 have hp:=Hp.start1 h.ok
 refine calls_x (args:= [_,_,_]) tabOk Tryz.func75 Tryz.ntmps75 Tryz.results75 rfl (Nat.le_of_ble_eq_true rfl) ?_
 ((conv=>whnf);repeat' (((with_reducible apply al_id);refine al_cel hp ?_;clear hp;intro bb w hp)<;>(conv=>whnf)))
 refine dr_autoi [0,2,4,6] (fun w=>w.cell? ⟨pn,0,none⟩=some (fnV pr)∧w.cell? ⟨pr,0,none⟩=some (ptr b)∧w.cell? ⟨pk,0,none⟩=some (fkV pr)) tabOk (by kernel_rfl) (by decide+kernel) rfl ⟨hp.drew.chg.cell h.cn h.outn,hp.drew.chg.cell h.cr h.outr,hp.drew.chg.cell h.ck h.outk⟩ ?_
 replace hp:=hp.drew
 ((conv=>whnf);repeat' (((with_reducible apply li_id);first|((refine li_of (fun w h=>h.1) ?_))|((refine li_of (fun w h=>h.2.1) ?_))|((refine li_of (fun w h=>h.2.2) ?_)))<;>(conv=>whnf)))
 refine cl_eq (cd1_any hI hq (h.via hp (by simp))) rfl rfl ?_
 rintro r w ⟨x1,p1,f1,hv1,hI1,rfl,hm⟩
 replace hp:=hp.via (j:=1) rfl hm
 dsimp only [List.set] at hp
 clear hm
 refine ⟨_,rfl,?_⟩
 refine cn ⟨hp.chg.cell h.cn h.outn,hp.chg.cell h.cr h.outr,hp.chg.cell h.ck h.outk⟩ ?_
 ((conv=>whnf))
 refine cl_eq (cd1_any hI1 hq (h.via hp (by simp))) rfl rfl ?_
 rintro r w ⟨x2,p2,f2,hv2,hI2,rfl,hm⟩
 replace hp:=hp.via (j:=1) rfl hm
 dsimp only [List.set] at hp
 clear hm
 refine ⟨_,rfl,?_⟩
 refine cn ⟨hp.chg.cell h.cn h.outn,hp.chg.cell h.cr h.outr,hp.chg.cell h.ck h.outk⟩ ?_
 ((conv=>whnf))
 refine cl_eq (rhintI_any hI2 hq (hp.get (j:=1) rfl)) rfl rfl ?_
 rintro r w ⟨x3,p3,f3,hv3,hI3,rfl,hm⟩
 replace hp:=hp.via (j:=1) rfl hm
 dsimp only [List.set] at hp
 clear hm
 refine ⟨_,rfl,?_⟩
 refine cn ⟨hp.chg.cell h.cn h.outn,hp.chg.cell h.cr h.outr,hp.chg.cell h.ck h.outk⟩ ?_
 ((conv=>whnf))
 refine cl_eq (cd2_any hI3 hq (h.via hp (by simp))) rfl rfl ?_
 rintro r w ⟨x4,p4,f4,hv4,hx4,hI4,rfl,hm⟩
 replace hp:=hp.via (j:=1) rfl hm
 dsimp only [List.set] at hp
 clear hm
 refine ⟨_,rfl,?_⟩
 replace hp:=(hp.perm (.swap ..)).split1
 refine cn ⟨hp.chg.cell h.cn h.outn,hp.chg.cell h.cr h.outr,hp.chg.cell h.ck h.outk⟩ ?_
 ((conv=>whnf);repeat' ((first|((with_reducible apply cn_id);first|(refine cn ⟨hp.chg.cell h.cn h.outn,hp.chg.cell h.cr h.outr,hp.chg.cell h.ck h.outk⟩ ?_)|refine cn rfl ?_)|((with_reducible apply ldn_id);apply lda_hs hp;(focus repeat' constructor);exact rfl)|((with_reducible apply st_id);apply sta_hs hp;(focus repeat' constructor);exact rfl;exact rfl;clear hp;intro w hp;(try dsimp only [List.set] at hp))|((with_reducible apply gen_id);(refine gen_build (t:=46) (out:=(Blob.c ⟨⟨x1,x2⟩,x3,x4⟩)) rfl (by kernel_rfl) ?_)))<;>(conv=>whnf)))
 have hv:Rv (rdR blobC.dec s) (Blob.p ⟨⟨x1,x2⟩,x3,x4⟩):=rv_map (rv_seq hv1 (rv_seq hv2 (rv_seq hv3 hv4)))
 have hl:lft (rdR blobC.dec s)=_:=lft_map.trans (lft_seq.trans (lft_seq.trans lft_seq))
 rw [←hl] at hI4
 exact ps_val (v':=Blob.v ⟨⟨x1,x2⟩,x3,x4⟩) rfl ⟨⟨⟨x1,x2⟩,x3,x4⟩,p4,f4,hv,hI4,rfl,(hp.pick [0,1] (by decide) rfl).give⟩
theorem cd6_any (hI:RdI q.l p (badE f) s) (hq:q.l.length≤1000000) (h:RdX pr pn pk b p q f w0):Calls Tryz.prog 78 #[ptr pn,ptr pr,ptr pk] w0 fun e w'=>
  ∃(x:Job) (p':Nat) (f':Flt),Rv (rdR jobC.dec s) x.p∧RdI q.l p' (badE f') (lft (rdR jobC.dec s))∧e= .returned x.v∧Mut (star (rdRs b q p f)) (star (jpayR x::rdRs b q p' f')) w0 w':=by
 have hp:=Hp.start1 h.ok
 refine calls_x (args:= [_,_,_]) tabOk Tryz.func78 Tryz.ntmps78 Tryz.results78 rfl (Nat.le_of_ble_eq_true rfl) ?_
 ((conv=>whnf);repeat' (((with_reducible apply al_id);refine al_cel hp ?_;clear hp;intro bb w hp)<;>(conv=>whnf)))
 obtain ⟨b3,hb3⟩:∃b:Nat,b=bb:=⟨_,rfl⟩
 subst hb3
 obtain ⟨S5,hS5⟩:∃S5,lft (rdR u32C.dec (lft (rdR u32C.dec (lft (rdR idC.dec (lft (rdR u32C.dec (lft (rdR u32C.dec s)))))))))=S5:=⟨_,rfl⟩
 refine dr_cut (fun e w=>∃(J:Job) (bj p5:Nat) (f5:Flt) (e0:Nat→Value),e=eat [(0,ptr pn),(1,ptr pr),(2,ptr pk),(3,ptr b3),(4,ptr bj)] ⟨e0, []⟩∧(J.live= -1∧J.pay=Sl.nil∧Rv (rdR u32C.dec s) J.key.ses∧Rv (rdR u32C.dec (lft (rdR u32C.dec s))) J.key.seq∧Rv (rdR idC.dec (lft (rdR u32C.dec (lft (rdR u32C.dec s))))) J.breach∧Rv (rdR u32C.dec (lft (rdR idC.dec (lft (rdR u32C.dec (lft (rdR u32C.dec s))))))) J.height∧Rv (rdR u32C.dec (lft (rdR u32C.dec (lft (rdR idC.dec (lft (rdR u32C.dec (lft (rdR u32C.dec s))))))))) J.mined)∧RdI q.l p5 (badE f5) S5∧Hp (star (rdRs b q p f)).dom w0 w [cel bj 59 (Job.c J).toArray,cel b3 59 (ag (i_u32::i_u32::i_u8::i_u8::i_u8::i_u8::i_u8::i_u8::i_u8::i_u8::i_u8::i_u8::i_u8::i_u8::i_u8::i_u8::i_u8::i_u8::i_u8::i_u8::i_u8::i_u8::i_u8::i_u8::i_u8::i_u8::i_u8::i_u8::i_u8::i_u8::i_u8::i_u8::i_u8::i_u8::i_u32::i_u32::i_i64::l_:: [])).cells,star (rdRs b q p5 f5)]) ?_ ?_
 ·refine dr_autoi [0,2,5,7,9] (fun w=>w.cell? ⟨pn,0,none⟩=some (fnV pr)∧w.cell? ⟨pr,0,none⟩=some (ptr b)∧w.cell? ⟨pk,0,none⟩=some (fkV pr)) tabOk (by kernel_rfl) (by decide+kernel) rfl ⟨hp.drew.chg.cell h.cn h.outn,hp.drew.chg.cell h.cr h.outr,hp.drew.chg.cell h.ck h.outk⟩ ?_
  replace hp:=hp.drew
  ((conv=>whnf);repeat' ((first|((with_reducible apply cn_id);first|(refine cn ⟨hp.chg.cell h.cn h.outn,hp.chg.cell h.cr h.outr,hp.chg.cell h.ck h.outk⟩ ?_)|refine cn rfl ?_)|((with_reducible apply al_id);refine al_cel hp ?_;clear hp;intro bb w hp)|((with_reducible apply st_id);apply sta_hs hp;(focus repeat' constructor);exact rfl;exact rfl;clear hp;intro w hp;(try dsimp only [List.set] at hp))|((with_reducible apply gen_id);first|(refine gen_build (t:=59) (out:=(Job.c ⟨⟨x1,x2⟩,x3,x4,x5, -1,Sl.nil⟩)) rfl (by kernel_rfl) ?_)|(apply gen_build;exact rfl;exact rfl))|((with_reducible apply fk_id);refine fk_mk ?_ ?_)|((with_reducible apply cl_id);first|((refine cl_eq (cd1_any hI hq (h.via hp (by simp))) rfl rfl ?_;rintro r w ⟨x1,p1,f1,hv1,hI1,rfl,hm⟩;(first|replace hp:=hp.via (j:=1) rfl hm|replace hp:=hp.via (j:=2) rfl hm);dsimp only [List.set] at hp;clear hm;refine ⟨_,rfl,?_⟩;refine cn ⟨hp.chg.cell h.cn h.outn,hp.chg.cell h.cr h.outr,hp.chg.cell h.ck h.outk⟩ ?_))|((refine cl_eq (cd1_any hI1 hq (h.via hp (by simp))) rfl rfl ?_;rintro r w ⟨x2,p2,f2,hv2,hI2,rfl,hm⟩;(first|replace hp:=hp.via (j:=1) rfl hm|replace hp:=hp.via (j:=2) rfl hm);dsimp only [List.set] at hp;clear hm;refine ⟨_,rfl,?_⟩;refine cn ⟨hp.chg.cell h.cn h.outn,hp.chg.cell h.cr h.outr,hp.chg.cell h.ck h.outk⟩ ?_))|((refine cl_eq (ridI_any hI2 hq (hp.ok (star (rdRs b q p2 f2)) (by simp))) rfl rfl ?_;rintro r w ⟨x3,p3,f3,hv3,hI3,rfl,hm⟩;(first|replace hp:=hp.via (j:=1) rfl hm|replace hp:=hp.via (j:=2) rfl hm);dsimp only [List.set] at hp;clear hm;refine ⟨_,rfl,?_⟩;refine cn ⟨hp.chg.cell h.cn h.outn,hp.chg.cell h.cr h.outr,hp.chg.cell h.ck h.outk⟩ ?_))|((refine cl_eq (cd1_any hI3 hq (h.via hp (by simp))) rfl rfl ?_;rintro r w ⟨x4,p4,f4,hv4,hI4,rfl,hm⟩;(first|replace hp:=hp.via (j:=1) rfl hm|replace hp:=hp.via (j:=2) rfl hm);dsimp only [List.set] at hp;clear hm;refine ⟨_,rfl,?_⟩;refine cn ⟨hp.chg.cell h.cn h.outn,hp.chg.cell h.cr h.outr,hp.chg.cell h.ck h.outk⟩ ?_))|((refine cl_eq (cd1_any hI4 hq (h.via hp (by simp))) rfl rfl ?_;rintro r w ⟨x5,p5,f5,hv5,hI5,rfl,hm⟩;(first|replace hp:=hp.via (j:=1) rfl hm|replace hp:=hp.via (j:=2) rfl hm);dsimp only [List.set] at hp;clear hm;refine ⟨_,rfl,?_⟩;refine cn ⟨hp.chg.cell h.cn h.outn,hp.chg.cell h.cr h.outr,hp.chg.cell h.ck h.outk⟩ ?_)))|((with_reducible apply li_id);first|((refine li_of (fun w h=>h.1) ?_))|((refine li_of (fun w h=>h.2.1) ?_))))<;>(conv=>whnf)))
  all_goals exact ⟨⟨⟨x1,x2⟩,x3,x4,x5, -1,Sl.nil⟩,_,p5,f5,_,eat_holds (by (repeat' (first|exact trivial|(refine ⟨rfl,?_⟩)))),⟨rfl,rfl,hv1,hv2,hv3,hv4,hv5⟩,by rw [←hS5];exact hI5,hp⟩
 clear hp
 rintro e w ⟨⟨⟨j1,j2⟩,j3,j4,j5,j6,j7⟩,bj,p5,f5,e0,rfl,⟨hjl,hjp,hv1,hv2,hv3,hv4,hv5⟩,hI5,hp⟩
 dsimp only at hjl hjp hv1 hv2 hv3 hv4 hv5
 subst hjl hjp
 ((conv=>whnf);repeat' (((with_reducible apply ld_id);(refine ld_of (hp.chg.cell h.ck h.outk) ?_))<;>(conv=>whnf)))
 refine cl_eq (cd2_any hI5 hq (h.via hp (by simp))) rfl rfl ?_
 rintro r w ⟨xb,p6,f6,hv6,hx6,hI6,rfl,hm⟩
 replace hp:=hp.via (j:=2) rfl hm
 dsimp only [List.set] at hp
 clear hm
 refine ⟨_,rfl,?_⟩
 have he6:=fun {w:World} (hc:(star (rdRs b q p6 f6)).ok w)=>rerrI_any hI6 hc
 have hlp:=lft_pck (F:=payF) hv6
 have hl:lft (rdR jobC.dec s)=_:=lft_map.trans (lft_seq.trans (lft_seq.trans (lft_seq.trans (lft_seq.trans lft_seq))))
 rw [hS5,hlp] at hl
 have hv:∀y,Rv (rdR (pckC N2 payF).dec S5) y→Rv (rdR jobC.dec s) ⟨⟨j1,j2⟩,j3,j4,j5, -1,y⟩:=fun y hy=>rv_map (rv_seq hv1 (rv_seq hv2 (rv_seq hv3 (rv_seq hv4 (rv_seq hv5 (by rw [hS5];exact hy))))))
 replace hp:=(hp.pick (rs':= [_,_,_]) [2,0,1] (by decide) rfl).split1
 ((conv=>whnf);repeat' ((first|((with_reducible apply br_id);(with_reducible refine br_eq (fun hx=>?_) (fun hx=>?_))<;>(try (exfalso;first|omega|contradiction)))|((with_reducible apply cn_id);refine cn rfl ?_)|((with_reducible apply ld_id);(refine ld_of (hp.chg.cell h.cr h.outr) ?_))|((with_reducible apply ldn_id);apply lda_hs hp;(focus repeat' constructor);exact rfl)|((with_reducible apply st_id);apply sta_hs hp;(focus repeat' constructor);exact rfl;exact rfl;clear hp;intro w hp;(try dsimp only [List.set] at hp))|((with_reducible apply cl_id);(refine cl_eq ((he6 (hp.get (j:=1) rfl))) rfl rfl ?_;rintro e w ⟨rfl,hcc⟩;replace hp:=hp.call0 hcc;refine ⟨_,rfl,?_⟩)))<;>(conv=>whnf)))
 ·refine cl_eq (decode_any (hp.row (j:=0) rfl) (by omega)) rfl rfl ?_
  rintro r w ⟨y,hy,rfl,hm⟩
  replace hp:=hp.add hm
  clear hm
  refine ⟨_,rfl,?_⟩
  have hc:=dec_cod xb.l
  have hd:payF.dec xb.l=if (dec xb.l).2=0 then .ok (dec xb.l).1 else .error (dec xb.l).2:=rfl
  rw [←hy] at hd
  obtain ⟨c,hcc2⟩:∃c,(dec xb.l).2=c:=⟨_,rfl⟩
  rw [hcc2] at hc hd ⊢
  rw [hd,cod_if] at hl
  have hvp:Rv (rdR (pckC N2 payF).dec S5) (y.l.map tk):=rv_pck hv6 fun a ha=>by
   rw [hd] at ha
   split at ha
   ·cases ha
    rfl
   ·cases ha
  replace hv:=hv _ hvp
  clear hvp hd hlp hcc2 hy
  ((conv=>whnf);repeat' ((first|((with_reducible apply cn_id);refine cn rfl ?_)|((with_reducible apply ld_id);(refine ld_of (hp.chg.cell h.cr h.outr) ?_))|((with_reducible apply al_id);refine al_cel hp ?_;clear hp;intro bb w hp)|((with_reducible apply st_id);apply sta_hs hp;(focus repeat' constructor);exact rfl;exact rfl;clear hp;intro w hp;(try dsimp only [List.set] at hp)))<;>(conv=>whnf)))
  refine cl_eq (rfailI_any c hc hI6 (hp.get (j:=3) rfl)) rfl rfl ?_
  rintro r w ⟨f7,hI7,rfl,hm⟩
  replace hp:=hp.via (j:=3) rfl hm
  dsimp only [List.set] at hp
  clear hm
  refine ⟨_,rfl,?_⟩
  rw [←hl] at hI7
  ((conv=>whnf);repeat' ((first|((with_reducible apply cn_id);refine cn rfl ?_)|((with_reducible apply ldn_id);apply lda_hs hp;(focus repeat' constructor);exact rfl)|((with_reducible apply st_id);first|(apply sta_hs hp;(focus repeat' constructor);exact rfl;exact rfl;clear hp;intro w hp;(try dsimp only [List.set] at hp))|(apply st_hs hp;(focus repeat' constructor);exact rfl;exact rfl;clear hp;intro w hp;(try dsimp only [List.set] at hp))))<;>(conv=>whnf)))
  exact ps_val (v':=Job.v ⟨⟨j1,j2⟩,j3,j4,j5, -1,y⟩) rfl ⟨⟨⟨j1,j2⟩,j3,j4,j5, -1,y⟩,p6,f7,hv,hI7,rfl,(hp.pick [1,3] (by decide) rfl).give⟩
 ·rename_i hx _ _
  exact ps_val (v':=Job.v ⟨⟨j1,j2⟩,j3,j4,j5, -1,Sl.nil⟩) rfl ⟨⟨⟨j1,j2⟩,j3,j4,j5, -1,Sl.nil⟩,p6,f6,hv _ (rv_pckbad hx),by rw [hl,fld_bad hx];exact hI6,rfl,(((hp.nilRow 88 2 Tier.c).fold 1).pick [0,2] (by decide) rfl).give⟩
end
set_option maxHeartbeats 2000000
structure FewI (x:Sta):Prop where
 ses:x.ses.l.length≤6000
 blobs:x.blobs.l.length≤600
 win:x.win.l.length≤600
 jobs:x.jobs.l.length≤600
 data:∀b∈x.blobs.l,b.data.l.length≤8000
 tx:∀b∈x.win.l,b.tx.l.length≤6000
 pay:∀j∈x.jobs.l,fewP j.pay=true
theorem copy_any {B:Nat} {w0:World} {b:Blk} (h:SlAt B w0 Id.c 32 b.tx) (hn:b.tx.l.length≤1000000):Calls Tryz.prog 129 #[b.v] w0 fun e w'=>∃s:Sl Id,s.l=b.tx.l∧e= .returned ({b with tx:=s}:Blk).v∧Made (rowR 48 32 Id.c s) w0 w':=by
 have hp:=Hp.start (S:=N0) w0
 have hB:∀b,N0 b→B≤b:=fun _ hh=>hh.elim
 have u1:=Tryz.underlying49
 refine calls_x (args:= [_]) tabOk Tryz.func129 Tryz.ntmps129 Tryz.results129 rfl (Nat.le_of_ble_eq_true rfl) ?_
 ((conv=>whnf);repeat' ((first|((with_reducible apply cn_id);refine cn rfl ?_)|((with_reducible apply ld_id);apply ld_hs hp;(focus repeat' constructor);exact rfl)|((with_reducible apply ldn_id);apply lda_hs hp;(focus repeat' constructor);exact rfl)|((with_reducible apply al_id);refine al_cel hp ?_;clear hp;intro bb w hp)|((with_reducible apply st_id);first|(apply sta_hs hp;(focus repeat' constructor);exact rfl;exact rfl;clear hp;intro w hp;(try dsimp only [List.set] at hp))|(apply st_hs hp;(focus repeat' constructor);exact rfl;exact rfl;clear hp;intro w hp;(try dsimp only [List.set] at hp)))|((with_reducible apply gen_id);(refine gen_app0 rfl hp el_id rfl b.tx rfl (h.keep hp.chg hB) (fun _ _=>rfl) idL_one (by omega) (by simp only [maxLen];omega) ?_);clear hp;intro A' c' w hg hp))<;>(conv=>whnf)))
 exact ps_val (v':=({b with tx:=⟨A',c',b.tx.l⟩}:Blk).v) rfl ⟨⟨A',c',b.tx.l⟩,rfl,rfl,hp.made1 (j:=0) rfl⟩
set_option maxHeartbeats 4000000
def Sta.z:Sta:=⟨⟨0,0,0,0,0,0⟩,0,0,0,Sl.nil,Sl.nil,Sl.nil,Sl.nil⟩
theorem el_blkR:ElT Tryz.prog 26 51 65 88:=elt_of (z:=Blk.v ⟨Id.z,Id.z,Sl.nil⟩) Tryz.underlying26 (by kernel_rfl) rfl (by omega)
theorem blk_oneR {l:List Blk}:∀x∈l,∀u∈Blk.c x,u.oneCell'=true:=fun x _ u hu=>List.all_eq_true.1 (show (Blk.c x).all Value.oneCell'=true from rfl) u hu
set_option maxHeartbeats 500000
theorem Hp.snocR {S:Nat→Prop} {w0 w:World} {a:Res} {L rs:List Res} (h:Hp S w0 w (a::star L::rs)):Hp S w0 w (star (L++ [a])::rs):=by
 have h1:=(h.perm (.swap ..)).unfold
 have h2:Hp S w0 w ((L++ [a])++rs):=by
  rw [List.append_assoc]
  exact h1
 have h3:=h2.fold (L++ [a]).length
 rw [List.take_left,List.drop_left] at h3
 exact h3
theorem Hp.foldR {S:Nat→Prop} {w0 w:World} {a:Res} {L rs:List Res} (h:Hp S w0 w (a::star L::rs)):Hp S w0 w (star (a::L)::rs):=by
 have h1:=((h.perm (.swap ..)).unfold).perm (List.perm_middle (l₁:=L))
 have h3:=h1.fold (L.length+1)
 rw [show (a::(L++rs)).take (L.length+1)=a::L by simp,show (a::(L++rs)).drop (L.length+1)=rs by simp] at h3
 exact h3
theorem Hp.nilStarR {S:Nat→Prop} {w0 w:World} {rs:List Res} (h:Hp S w0 w rs):Hp S w0 w (star []::rs):=h.fold 0
theorem ar_un9 {n:Int} (k:Nat) (h:n=k) (hk:k < 65536) {f:Int→Prop} (hf:f (k:Int)):Ar .u64 n f:=ar_u64 (by omega) (h▸hf)
theorem cod_z {s:Rst}:cod s=0∨cod s≠0:=by omega
section
variable {pr pn pk b p : Nat} {q : Sl UInt8} {f : Flt} {s : Rst} {w0 : World}
theorem tk1_any (hI:RdI q.l p (badE f) s) (hq:q.l.length≤1000000) (h:RdX pr pn pk b p q f w0):Calls Tryz.prog 67 #[ptr b,i64 1, .func (.func 68) #[] #[ptr pk,ptr pr]] w0 fun e w'=>
  ∃(x:Sl Blk) (p':Nat) (f':Flt),Rv (rdR (lstC N1 (pckC N2 blkF)).dec s) (x.l.map Blk.p)∧x.l.length < 256∧RdI q.l p' (badE f') (lft (rdR (lstC N1 (pckC N2 blkF)).dec s))∧e= .returned x.v∧Mut (star (rdRs b q p f)) (star (star (winRs x)::rdRs b q p' f')) w0 w':=by
 have hp:=Hp.start1 h.ok
 refine calls_x (args:= [_,_,_]) tabOk Tryz.func67 Tryz.ntmps67 Tryz.results67 rfl (Nat.le_of_ble_eq_true rfl) ?_
 ((conv=>whnf))
 refine cl_eq (rnumI_any 1 N1 (fun _=>rfl) (by omega) hI hq (hp.get (j:=0) rfl)) rfl rfl ?_
 rintro r w ⟨n,p1,f1,hvn,hn,hI1,rfl,hm⟩
 replace hp:=hp.via (j:=0) rfl hm
 dsimp only [List.set] at hp
 clear hm
 refine ⟨_,rfl,?_⟩
 have hn:n < 256:=hn
 ((conv=>whnf))
 refine lp_inv (α:=Nat×Sl Blk×Nat×Flt×Rst) (fun a=> [(0,ptr b),(2, .func (.func 68) #[] #[ptr pk,ptr pr]),(7,a.2.1.v),(8, .int .u64 a.1)]) (fun a w=>a.2.1.l.length+a.1=n∧RpI (pckC N2 blkF) n (lft (rdR N1.dec s)) a.1 a.2.2.2.2 (a.2.1.l.map Blk.p)∧RdI q.l a.2.2.1 (badE a.2.2.2.1) a.2.2.2.2∧Hp (star (rdRs b q p f)).dom w0 w [rowR 51 65 Blk.c a.2.1,star (a.2.1.l.map btxR),star (rdRs b q a.2.2.1 a.2.2.2.1)]) (fun a=>a.1) (n,Sl.nil,p1,f1,lft (rdR N1.dec s)) (by (repeat' (first|exact trivial|(refine ⟨rfl,?_⟩)))) ⟨by show 0+n=n;omega,RpI.start,hI1,((hp.nilStarR).nilRow 51 65 Blk.c)⟩ ?_
 clear hp hI hI1
 rintro ⟨k,out,p1,f1,s1⟩ e0 w ⟨hk,hr,hI,hp⟩
 dsimp only at hk hr hI hp ⊢
 have he:=fun {w:World} (hc:(star (rdRs b q p1 f1)).ok w)=>rerrI_any hI hc
 rcases Nat.eq_zero_or_pos k with rfl|hpos
 ·obtain ⟨hl,hv⟩:=hr.stop (.inl rfl)
  have hv:=rv_lst hvn hv
  have hl:=(lft_lst (C:=pckC N2 blkF) hvn).trans hl
  rw [←hl] at hI
  ((conv=>whnf);repeat' (((with_reducible apply br_id);first|with_reducible refine br_f ?_|((with_reducible refine br_dec (fun hx=>?_) (fun hx=>?_))<;>(try (exfalso;first|omega|contradiction))))<;>(conv=>whnf)))
  exact ps_val (v':=out.v) rfl ⟨out,p1,f1,hv,by omega,hI,rfl,hp.foldR.give⟩
 rcases cod_z (s:=s1) with hz|hz
 ·obtain ⟨k,rfl⟩:∃k',k=k'+1:=⟨k - 1,by omega⟩
  ((conv=>whnf);repeat' ((first|((with_reducible apply br_id);first|with_reducible refine br_t ?_|((with_reducible refine br_dec (fun hx=>?_) (fun hx=>?_))<;>(try (exfalso;first|omega|contradiction)))|((with_reducible refine br_eq (fun hx=>?_) (fun hx=>?_))<;>(try (exfalso;first|omega|contradiction))))|((with_reducible apply cl_id);(refine cl_eq ((he (hp.ok (star (rdRs b q p1 f1)) (by simp)))) rfl rfl ?_;rintro e w ⟨rfl,hcc⟩;replace hp:=hp.call0 hcc;refine ⟨_,rfl,?_⟩)))<;>(conv=>whnf)))
  refine cl_eq (cd3_any hI hq (h.via hp (by simp))) rfl rfl ?_
  rintro r w ⟨x,p2,f2,hv,hx32,hI2,rfl,hm⟩
  replace hp:=hp.via (j:=2) rfl hm
  dsimp only [List.set] at hp
  clear hm
  refine ⟨_,rfl,?_⟩
  have hr2:=hr.next hv
  replace hp:=((hp.pick (rs':= [_,_,_]) [2,1,0] (by decide) rfl).split1.pick (rs':= [_,_,_,_]) [0,2,3,1] (by decide) rfl).snocR
  rw [show out.l.map btxR++ [btxR x]=(out.l++ [x]).map btxR by rw [List.map_append];rfl] at hp
  ((conv=>whnf);repeat' ((first|((with_reducible apply ar_id);(refine ar_un9 k (by omega) (by omega) ?_))|((with_reducible apply gen_id);first|((refine gen_bs rfl hp el_blkR Blk.c [x] [Blk.v x] rfl rfl rfl (fun _ hh=>by simp at hh;subst hh;rfl) (by omega) ?_);clear hp;intro br w hp)|((refine gen_app (s:=out) rfl hp 2 rfl el_blkR rfl ⟨some ⟨br,0,none⟩,1, [x]⟩ rfl (hp.row (j:=0) rfl) (fun _ _=>rfl) blk_oneR (by simp only [List.length_cons,List.length_nil];omega) (by simp only [maxLen,List.length_cons,List.length_nil];omega) ?_);clear hp;intro A2 c2 w hp;dsimp only [List.set] at hp)))<;>(conv=>whnf)))
  exact lp_next (k,(⟨A2,c2,out.l++ [x]⟩:Sl Blk),p2,f2,lft (rdR (pckC N2 blkF).dec s1)) (by show k < k+1;omega) (by (repeat' (first|exact trivial|(refine ⟨rfl,?_⟩)))) ⟨by show (out.l++ [x]).length+k=n;rw [List.length_append];simp only [List.length_cons,List.length_nil];omega,by rw [List.map_append];exact hr2,hI2,hp.tail.pick [1,0,2] (by decide) rfl⟩
 ·obtain ⟨hl,hv⟩:=hr.stop (.inr hz)
  have hv:=rv_lst hvn hv
  have hl:=(lft_lst (C:=pckC N2 blkF) hvn).trans hl
  rw [←hl] at hI
  ((conv=>whnf);repeat' ((first|((with_reducible apply br_id);first|with_reducible refine br_t ?_|((with_reducible refine br_dec (fun hx=>?_) (fun hx=>?_))<;>(try (exfalso;first|omega|contradiction)))|((with_reducible refine br_eq (fun hx=>?_) (fun hx=>?_))<;>(try (exfalso;first|omega|contradiction))))|((with_reducible apply cl_id);(refine cl_eq ((he (hp.ok (star (rdRs b q p1 f1)) (by simp)))) rfl rfl ?_;rintro e w ⟨rfl,hcc⟩;replace hp:=hp.call0 hcc;refine ⟨_,rfl,?_⟩)))<;>(conv=>whnf)))
  exact ps_val (v':=out.v) rfl ⟨out,p1,f1,hv,by omega,hI,rfl,hp.foldR.give⟩
theorem tk2_any (hI:RdI q.l p (badE f) s) (hq:q.l.length≤1000000) (h:RdX pr pn pk b p q f w0):Calls Tryz.prog 72 #[ptr b,i64 1, .func (.func 73) #[] #[ptr pn]] w0 fun e w'=>
  ∃(x:Sl Sess) (p':Nat) (f':Flt),Rv (rdR (lstC N1 (sesC)).dec s) x.l∧x.l.length < 256∧RdI q.l p' (badE f') (lft (rdR (lstC N1 (sesC)).dec s))∧e= .returned x.v∧Mut (star (rdRs b q p f)) (star (sesR x::rdRs b q p' f')) w0 w':=by
 have hp:=Hp.start1 h.ok
 refine calls_x (args:= [_,_,_]) tabOk Tryz.func72 Tryz.ntmps72 Tryz.results72 rfl (Nat.le_of_ble_eq_true rfl) ?_
 ((conv=>whnf))
 refine cl_eq (rnumI_any 1 N1 (fun _=>rfl) (by omega) hI hq (hp.get (j:=0) rfl)) rfl rfl ?_
 rintro r w ⟨n,p1,f1,hvn,hn,hI1,rfl,hm⟩
 replace hp:=hp.via (j:=0) rfl hm
 dsimp only [List.set] at hp
 clear hm
 refine ⟨_,rfl,?_⟩
 have hn:n < 256:=hn
 ((conv=>whnf))
 refine lp_inv (α:=Nat×Sl Sess×Nat×Flt×Rst) (fun a=> [(0,ptr b),(2, .func (.func 73) #[] #[ptr pn]),(7,a.2.1.v),(8, .int .u64 a.1)]) (fun a w=>a.2.1.l.length+a.1=n∧RpI (sesC) n (lft (rdR N1.dec s)) a.1 a.2.2.2.2 a.2.1.l∧RdI q.l a.2.2.1 (badE a.2.2.2.1) a.2.2.2.2∧Hp (star (rdRs b q p f)).dom w0 w [rowR 103 4 Sess.c a.2.1,star (rdRs b q a.2.2.1 a.2.2.2.1)]) (fun a=>a.1) (n,Sl.nil,p1,f1,lft (rdR N1.dec s)) (by (repeat' (first|exact trivial|(refine ⟨rfl,?_⟩)))) ⟨by show 0+n=n;omega,RpI.start,hI1,(hp.nilRow 103 4 Sess.c)⟩ ?_
 clear hp hI hI1
 rintro ⟨k,out,p1,f1,s1⟩ e0 w ⟨hk,hr,hI,hp⟩
 dsimp only at hk hr hI hp ⊢
 have he:=fun {w:World} (hc:(star (rdRs b q p1 f1)).ok w)=>rerrI_any hI hc
 rcases Nat.eq_zero_or_pos k with rfl|hpos
 ·obtain ⟨hl,hv⟩:=hr.stop (.inl rfl)
  have hv:=rv_lst hvn hv
  have hl:=(lft_lst (C:=sesC) hvn).trans hl
  rw [←hl] at hI
  ((conv=>whnf);repeat' (((with_reducible apply br_id);first|with_reducible refine br_f ?_|((with_reducible refine br_dec (fun hx=>?_) (fun hx=>?_))<;>(try (exfalso;first|omega|contradiction))))<;>(conv=>whnf)))
  exact ps_val (v':=out.v) rfl ⟨out,p1,f1,hv,by omega,hI,rfl,hp.give⟩
 rcases cod_z (s:=s1) with hz|hz
 ·obtain ⟨k,rfl⟩:∃k',k=k'+1:=⟨k - 1,by omega⟩
  ((conv=>whnf);repeat' ((first|((with_reducible apply br_id);first|with_reducible refine br_t ?_|((with_reducible refine br_dec (fun hx=>?_) (fun hx=>?_))<;>(try (exfalso;first|omega|contradiction)))|((with_reducible refine br_eq (fun hx=>?_) (fun hx=>?_))<;>(try (exfalso;first|omega|contradiction))))|((with_reducible apply cl_id);(refine cl_eq ((he (hp.ok (star (rdRs b q p1 f1)) (by simp)))) rfl rfl ?_;rintro e w ⟨rfl,hcc⟩;replace hp:=hp.call0 hcc;refine ⟨_,rfl,?_⟩)))<;>(conv=>whnf)))
  refine cl_eq (cd4_any hI hq (h.via hp (by simp))) rfl rfl ?_
  rintro r w ⟨x,p2,f2,hv,hI2,rfl,hm⟩
  replace hp:=hp.via (j:=1) rfl hm
  dsimp only [List.set] at hp
  clear hm
  refine ⟨_,rfl,?_⟩
  have hr2:=hr.next hv
  ((conv=>whnf);repeat' ((first|((with_reducible apply ar_id);(refine ar_un9 k (by omega) (by omega) ?_))|((with_reducible apply gen_id);first|((refine gen_bs rfl hp el_ses Sess.c [x] [Sess.v x] rfl rfl rfl (fun _ hh=>by simp at hh;subst hh;rfl) (by omega) ?_);clear hp;intro br w hp)|((refine gen_app (s:=out) rfl hp 1 rfl el_ses rfl ⟨some ⟨br,0,none⟩,1, [x]⟩ rfl (hp.row (j:=0) rfl) (fun _ _=>rfl) ses_one (by simp only [List.length_cons,List.length_nil];omega) (by simp only [maxLen,List.length_cons,List.length_nil];omega) ?_);clear hp;intro A2 c2 w hp;dsimp only [List.set] at hp)))<;>(conv=>whnf)))
  exact lp_next (k,(⟨A2,c2,out.l++ [x]⟩:Sl Sess),p2,f2,lft (rdR (sesC).dec s1)) (by show k < k+1;omega) (by (repeat' (first|exact trivial|(refine ⟨rfl,?_⟩)))) ⟨by show (out.l++ [x]).length+k=n;rw [List.length_append];simp only [List.length_cons,List.length_nil];omega,hr2,hI2,hp.tail⟩
 ·obtain ⟨hl,hv⟩:=hr.stop (.inr hz)
  have hv:=rv_lst hvn hv
  have hl:=(lft_lst (C:=sesC) hvn).trans hl
  rw [←hl] at hI
  ((conv=>whnf);repeat' ((first|((with_reducible apply br_id);first|with_reducible refine br_t ?_|((with_reducible refine br_dec (fun hx=>?_) (fun hx=>?_))<;>(try (exfalso;first|omega|contradiction)))|((with_reducible refine br_eq (fun hx=>?_) (fun hx=>?_))<;>(try (exfalso;first|omega|contradiction))))|((with_reducible apply cl_id);(refine cl_eq ((he (hp.ok (star (rdRs b q p1 f1)) (by simp)))) rfl rfl ?_;rintro e w ⟨rfl,hcc⟩;replace hp:=hp.call0 hcc;refine ⟨_,rfl,?_⟩)))<;>(conv=>whnf)))
  exact ps_val (v':=out.v) rfl ⟨out,p1,f1,hv,by omega,hI,rfl,hp.give⟩
theorem tk3_any (hI:RdI q.l p (badE f) s) (hq:q.l.length≤1000000) (h:RdX pr pn pk b p q f w0):Calls Tryz.prog 74 #[ptr b,i64 2, .func (.func 75) #[] #[ptr pn,ptr pr,ptr pk]] w0 fun e w'=>
  ∃(x:Sl Blob) (p':Nat) (f':Flt),Rv (rdR (lstC N2 (blobC)).dec s) (x.l.map Blob.p)∧x.l.length < 65536∧RdI q.l p' (badE f') (lft (rdR (lstC N2 (blobC)).dec s))∧e= .returned x.v∧Mut (star (rdRs b q p f)) (star (star (blobRs x)::rdRs b q p' f')) w0 w':=by
 have hp:=Hp.start1 h.ok
 refine calls_x (args:= [_,_,_]) tabOk Tryz.func74 Tryz.ntmps74 Tryz.results74 rfl (Nat.le_of_ble_eq_true rfl) ?_
 ((conv=>whnf))
 refine cl_eq (rnumI_any 2 N2 (fun _=>rfl) (by omega) hI hq (hp.get (j:=0) rfl)) rfl rfl ?_
 rintro r w ⟨n,p1,f1,hvn,hn,hI1,rfl,hm⟩
 replace hp:=hp.via (j:=0) rfl hm
 dsimp only [List.set] at hp
 clear hm
 refine ⟨_,rfl,?_⟩
 have hn:n < 65536:=hn
 ((conv=>whnf))
 refine lp_inv (α:=Nat×Sl Blob×Nat×Flt×Rst) (fun a=> [(0,ptr b),(2, .func (.func 75) #[] #[ptr pn,ptr pr,ptr pk]),(7,a.2.1.v),(8, .int .u64 a.1)]) (fun a w=>a.2.1.l.length+a.1=n∧RpI (blobC) n (lft (rdR N2.dec s)) a.1 a.2.2.2.2 (a.2.1.l.map Blob.p)∧RdI q.l a.2.2.1 (badE a.2.2.2.1) a.2.2.2.2∧Hp (star (rdRs b q p f)).dom w0 w [rowR 46 19 Blob.c a.2.1,star (a.2.1.l.map bdatR),star (rdRs b q a.2.2.1 a.2.2.2.1)]) (fun a=>a.1) (n,Sl.nil,p1,f1,lft (rdR N2.dec s)) (by (repeat' (first|exact trivial|(refine ⟨rfl,?_⟩)))) ⟨by show 0+n=n;omega,RpI.start,hI1,((hp.nilStarR).nilRow 46 19 Blob.c)⟩ ?_
 clear hp hI hI1
 rintro ⟨k,out,p1,f1,s1⟩ e0 w ⟨hk,hr,hI,hp⟩
 dsimp only at hk hr hI hp ⊢
 have he:=fun {w:World} (hc:(star (rdRs b q p1 f1)).ok w)=>rerrI_any hI hc
 rcases Nat.eq_zero_or_pos k with rfl|hpos
 ·obtain ⟨hl,hv⟩:=hr.stop (.inl rfl)
  have hv:=rv_lst hvn hv
  have hl:=(lft_lst (C:=blobC) hvn).trans hl
  rw [←hl] at hI
  ((conv=>whnf);repeat' (((with_reducible apply br_id);first|with_reducible refine br_f ?_|((with_reducible refine br_dec (fun hx=>?_) (fun hx=>?_))<;>(try (exfalso;first|omega|contradiction))))<;>(conv=>whnf)))
  exact ps_val (v':=out.v) rfl ⟨out,p1,f1,hv,by omega,hI,rfl,hp.foldR.give⟩
 rcases cod_z (s:=s1) with hz|hz
 ·obtain ⟨k,rfl⟩:∃k',k=k'+1:=⟨k - 1,by omega⟩
  ((conv=>whnf);repeat' ((first|((with_reducible apply br_id);first|with_reducible refine br_t ?_|((with_reducible refine br_dec (fun hx=>?_) (fun hx=>?_))<;>(try (exfalso;first|omega|contradiction)))|((with_reducible refine br_eq (fun hx=>?_) (fun hx=>?_))<;>(try (exfalso;first|omega|contradiction))))|((with_reducible apply cl_id);(refine cl_eq ((he (hp.ok (star (rdRs b q p1 f1)) (by simp)))) rfl rfl ?_;rintro e w ⟨rfl,hcc⟩;replace hp:=hp.call0 hcc;refine ⟨_,rfl,?_⟩)))<;>(conv=>whnf)))
  refine cl_eq (cd5_any hI hq (h.via hp (by simp))) rfl rfl ?_
  rintro r w ⟨x,p2,f2,hv,hI2,rfl,hm⟩
  replace hp:=hp.via (j:=2) rfl hm
  dsimp only [List.set] at hp
  clear hm
  refine ⟨_,rfl,?_⟩
  have hr2:=hr.next hv
  replace hp:=((hp.pick (rs':= [_,_,_]) [2,1,0] (by decide) rfl).split1.pick (rs':= [_,_,_,_]) [0,2,3,1] (by decide) rfl).snocR
  rw [show out.l.map bdatR++ [bdatR x]=(out.l++ [x]).map bdatR by rw [List.map_append];rfl] at hp
  ((conv=>whnf);repeat' ((first|((with_reducible apply ar_id);(refine ar_un9 k (by omega) (by omega) ?_))|((with_reducible apply gen_id);first|((refine gen_bs rfl hp el_blob Blob.c [x] [Blob.v x] rfl rfl rfl (fun _ hh=>by simp at hh;subst hh;rfl) (by omega) ?_);clear hp;intro br w hp)|((refine gen_app (s:=out) rfl hp 2 rfl el_blob rfl ⟨some ⟨br,0,none⟩,1, [x]⟩ rfl (hp.row (j:=0) rfl) (fun _ _=>rfl) blob_one (by simp only [List.length_cons,List.length_nil];omega) (by simp only [maxLen,List.length_cons,List.length_nil];omega) ?_);clear hp;intro A2 c2 w hp;dsimp only [List.set] at hp)))<;>(conv=>whnf)))
  exact lp_next (k,(⟨A2,c2,out.l++ [x]⟩:Sl Blob),p2,f2,lft (rdR (blobC).dec s1)) (by show k < k+1;omega) (by (repeat' (first|exact trivial|(refine ⟨rfl,?_⟩)))) ⟨by show (out.l++ [x]).length+k=n;rw [List.length_append];simp only [List.length_cons,List.length_nil];omega,by rw [List.map_append];exact hr2,hI2,hp.tail.pick [1,0,2] (by decide) rfl⟩
 ·obtain ⟨hl,hv⟩:=hr.stop (.inr hz)
  have hv:=rv_lst hvn hv
  have hl:=(lft_lst (C:=blobC) hvn).trans hl
  rw [←hl] at hI
  ((conv=>whnf);repeat' ((first|((with_reducible apply br_id);first|with_reducible refine br_t ?_|((with_reducible refine br_dec (fun hx=>?_) (fun hx=>?_))<;>(try (exfalso;first|omega|contradiction)))|((with_reducible refine br_eq (fun hx=>?_) (fun hx=>?_))<;>(try (exfalso;first|omega|contradiction))))|((with_reducible apply cl_id);(refine cl_eq ((he (hp.ok (star (rdRs b q p1 f1)) (by simp)))) rfl rfl ?_;rintro e w ⟨rfl,hcc⟩;replace hp:=hp.call0 hcc;refine ⟨_,rfl,?_⟩)))<;>(conv=>whnf)))
  exact ps_val (v':=out.v) rfl ⟨out,p1,f1,hv,by omega,hI,rfl,hp.foldR.give⟩
theorem tk4_any (hI:RdI q.l p (badE f) s) (hq:q.l.length≤1000000) (h:RdX pr pn pk b p q f w0):Calls Tryz.prog 77 #[ptr b,i64 2, .func (.func 78) #[] #[ptr pn,ptr pr,ptr pk]] w0 fun e w'=>
  ∃(x:Sl Job) (p':Nat) (f':Flt),Rv (rdR (lstC N2 (jobC)).dec s) (x.l.map Job.p)∧x.l.length < 65536∧RdI q.l p' (badE f') (lft (rdR (lstC N2 (jobC)).dec s))∧e= .returned x.v∧Mut (star (rdRs b q p f)) (star (star (jobRs x)::rdRs b q p' f')) w0 w':=by
 have hp:=Hp.start1 h.ok
 refine calls_x (args:= [_,_,_]) tabOk Tryz.func77 Tryz.ntmps77 Tryz.results77 rfl (Nat.le_of_ble_eq_true rfl) ?_
 ((conv=>whnf))
 refine cl_eq (rnumI_any 2 N2 (fun _=>rfl) (by omega) hI hq (hp.get (j:=0) rfl)) rfl rfl ?_
 rintro r w ⟨n,p1,f1,hvn,hn,hI1,rfl,hm⟩
 replace hp:=hp.via (j:=0) rfl hm
 dsimp only [List.set] at hp
 clear hm
 refine ⟨_,rfl,?_⟩
 have hn:n < 65536:=hn
 ((conv=>whnf))
 refine lp_inv (α:=Nat×Sl Job×Nat×Flt×Rst) (fun a=> [(0,ptr b),(2, .func (.func 78) #[] #[ptr pn,ptr pr,ptr pk]),(7,a.2.1.v),(8, .int .u64 a.1)]) (fun a w=>a.2.1.l.length+a.1=n∧RpI (jobC) n (lft (rdR N2.dec s)) a.1 a.2.2.2.2 (a.2.1.l.map Job.p)∧RdI q.l a.2.2.1 (badE a.2.2.2.1) a.2.2.2.2∧Hp (star (rdRs b q p f)).dom w0 w [rowR 59 38 Job.c a.2.1,star (a.2.1.l.map jpayR),star (rdRs b q a.2.2.1 a.2.2.2.1)]) (fun a=>a.1) (n,Sl.nil,p1,f1,lft (rdR N2.dec s)) (by (repeat' (first|exact trivial|(refine ⟨rfl,?_⟩)))) ⟨by show 0+n=n;omega,RpI.start,hI1,((hp.nilStarR).nilRow 59 38 Job.c)⟩ ?_
 clear hp hI hI1
 rintro ⟨k,out,p1,f1,s1⟩ e0 w ⟨hk,hr,hI,hp⟩
 dsimp only at hk hr hI hp ⊢
 have he:=fun {w:World} (hc:(star (rdRs b q p1 f1)).ok w)=>rerrI_any hI hc
 rcases Nat.eq_zero_or_pos k with rfl|hpos
 ·obtain ⟨hl,hv⟩:=hr.stop (.inl rfl)
  have hv:=rv_lst hvn hv
  have hl:=(lft_lst (C:=jobC) hvn).trans hl
  rw [←hl] at hI
  ((conv=>whnf);repeat' (((with_reducible apply br_id);first|with_reducible refine br_f ?_|((with_reducible refine br_dec (fun hx=>?_) (fun hx=>?_))<;>(try (exfalso;first|omega|contradiction))))<;>(conv=>whnf)))
  exact ps_val (v':=out.v) rfl ⟨out,p1,f1,hv,by omega,hI,rfl,hp.foldR.give⟩
 rcases cod_z (s:=s1) with hz|hz
 ·obtain ⟨k,rfl⟩:∃k',k=k'+1:=⟨k - 1,by omega⟩
  ((conv=>whnf);repeat' ((first|((with_reducible apply br_id);first|with_reducible refine br_t ?_|((with_reducible refine br_dec (fun hx=>?_) (fun hx=>?_))<;>(try (exfalso;first|omega|contradiction)))|((with_reducible refine br_eq (fun hx=>?_) (fun hx=>?_))<;>(try (exfalso;first|omega|contradiction))))|((with_reducible apply cl_id);(refine cl_eq ((he (hp.ok (star (rdRs b q p1 f1)) (by simp)))) rfl rfl ?_;rintro e w ⟨rfl,hcc⟩;replace hp:=hp.call0 hcc;refine ⟨_,rfl,?_⟩)))<;>(conv=>whnf)))
  refine cl_eq (cd6_any hI hq (h.via hp (by simp))) rfl rfl ?_
  rintro r w ⟨x,p2,f2,hv,hI2,rfl,hm⟩
  replace hp:=hp.via (j:=2) rfl hm
  dsimp only [List.set] at hp
  clear hm
  refine ⟨_,rfl,?_⟩
  have hr2:=hr.next hv
  replace hp:=((hp.pick (rs':= [_,_,_]) [2,1,0] (by decide) rfl).split1.pick (rs':= [_,_,_,_]) [0,2,3,1] (by decide) rfl).snocR
  rw [show out.l.map jpayR++ [jpayR x]=(out.l++ [x]).map jpayR by rw [List.map_append];rfl] at hp
  ((conv=>whnf);repeat' ((first|((with_reducible apply ar_id);(refine ar_un9 k (by omega) (by omega) ?_))|((with_reducible apply gen_id);first|((refine gen_bs rfl hp el_job Job.c [x] [Job.v x] rfl rfl rfl (fun _ hh=>by simp at hh;subst hh;rfl) (by omega) ?_);clear hp;intro br w hp)|((refine gen_app (s:=out) rfl hp 2 rfl el_job rfl ⟨some ⟨br,0,none⟩,1, [x]⟩ rfl (hp.row (j:=0) rfl) (fun _ _=>rfl) job_one (by simp only [List.length_cons,List.length_nil];omega) (by simp only [maxLen,List.length_cons,List.length_nil];omega) ?_);clear hp;intro A2 c2 w hp;dsimp only [List.set] at hp)))<;>(conv=>whnf)))
  exact lp_next (k,(⟨A2,c2,out.l++ [x]⟩:Sl Job),p2,f2,lft (rdR (jobC).dec s1)) (by show k < k+1;omega) (by (repeat' (first|exact trivial|(refine ⟨rfl,?_⟩)))) ⟨by show (out.l++ [x]).length+k=n;rw [List.length_append];simp only [List.length_cons,List.length_nil];omega,by rw [List.map_append];exact hr2,hI2,hp.tail.pick [1,0,2] (by decide) rfl⟩
 ·obtain ⟨hl,hv⟩:=hr.stop (.inr hz)
  have hv:=rv_lst hvn hv
  have hl:=(lft_lst (C:=jobC) hvn).trans hl
  rw [←hl] at hI
  ((conv=>whnf);repeat' ((first|((with_reducible apply br_id);first|with_reducible refine br_t ?_|((with_reducible refine br_dec (fun hx=>?_) (fun hx=>?_))<;>(try (exfalso;first|omega|contradiction)))|((with_reducible refine br_eq (fun hx=>?_) (fun hx=>?_))<;>(try (exfalso;first|omega|contradiction))))|((with_reducible apply cl_id);(refine cl_eq ((he (hp.ok (star (rdRs b q p1 f1)) (by simp)))) rfl rfl ?_;rintro e w ⟨rfl,hcc⟩;replace hp:=hp.call0 hcc;refine ⟨_,rfl,?_⟩)))<;>(conv=>whnf)))
  exact ps_val (v':=out.v) rfl ⟨out,p1,f1,hv,by omega,hI,rfl,hp.foldR.give⟩
end
end Go.Proofs.YtpbapnlnheahnaaGreatDoor
