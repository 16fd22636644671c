/- MImprintReads33: parts of the proof of ImprintReads: Rdr5, Rdr6. No condition of their own. -/
import Derived.Test.YtpbapnlnheahnaaGreatDoorMImprintReads32
import Derived.Test.YtpbapnlnheahnaaGreatDoorMImprintReads21
set_option linter.unusedSimpArgs false
set_option linter.unusedVariables false
namespace Go.Proofs.YtpbapnlnheahnaaGreatDoor
open Go.RowKit Go.Stop
set_option maxRecDepth 100000
set_option maxHeartbeats 500000
theorem RpI.bad {α:Type} {C:Cdc α} {n k:Nat} {s0 s:Rst} {acc acc':List α} (h:RpI C n s0 k s acc) (hs:cod s≠0):RpI C n s0 k s acc':=⟨h.lft,fun ys r he=>by
 obtain ⟨xs,h1,_⟩:=h.rv ys r he
 cases s with
 |error e=>cases h1
 |ok l=>exact absurd rfl hs⟩
section
variable {w0 : World} {p B : Nat} {q : Sl UInt8} {s : Rst}
theorem rblocks_any (x:Sta) (hx:x.win=Sl.nil) (hI:RdD q.l p s) (hq:q.l.length≤1000000) (h:SlAt B w0 u8L 1 q):Calls Tryz.prog 29 #[rv9 q p s,x.v] w0 fun r w'=>
  ∃(W:Sl Blk) (p':Nat),Rv (rdR (lstC N1 (pckC N2 blkF)).dec s) (W.l.map Blk.p)∧W.l.length < 256∧RdD q.l p' (lft (rdR (lstC N1 (pckC N2 blkF)).dec s))∧r= .returned (.tuple #[rv9 q p' (lft (rdR (lstC N1 (pckC N2 blkF)).dec s)),Sta.v ⟨x.cfg,x.ht,x.halt,x.next,W,x.ses,x.blobs,x.jobs⟩])∧Made (star (winRs W)) w0 w':=by
 have hp:=Hp.start (S:=N0) w0
 have hB:∀b,N0 b→B≤b:=fun _ hh=>hh.elim
 obtain ⟨xc,xh,xl,xn,xw,xs,xo,xj⟩:=x
 dsimp only at hx ⊢
 subst hx
 refine calls_x (args:= [_,_]) tabOk Tryz.func29 Tryz.ntmps29 Tryz.results29 rfl (Nat.le_of_ble_eq_true rfl) ?_
 ((conv=>whnf);repeat' ((first|((with_reducible apply ldn_id);apply lda_hs hp;(focus repeat' constructor);exact rfl)|((with_reducible apply al_id);refine al_cel hp ?_;clear hp;intro bb w hp))<;>(conv=>whnf)))
 obtain ⟨b5,hb5⟩:∃b,b=bb:=⟨_,rfl⟩
 subst hb5
 obtain ⟨b4,hb4⟩:∃b,b=bb:=⟨_,rfl⟩
 subst hb4
 obtain ⟨b3,hb3⟩:∃b,b=bb:=⟨_,rfl⟩
 subst hb3
 obtain ⟨b2,hb2⟩:∃b,b=bb:=⟨_,rfl⟩
 subst hb2
 refine cl_eq (rNum9_any 1 N1 (fun _=>rfl) (by omega) hI hq (h.keep hp.chg hB)) rfl rfl ?_
 rintro r w ⟨n,p1,hvn,hn,hI1,rfl,hcc⟩
 replace hp:=hp.call0 hcc
 clear hcc
 refine ⟨_,rfl,?_⟩
 have hn:n < 256:=hn
 ((conv=>whnf);repeat' ((first|((with_reducible apply cn_id);refine cn rfl ?_)|((with_reducible apply st_id);apply sta_hs hp;(focus repeat' constructor);exact rfl;exact rfl;clear hp;intro w hp;(try dsimp only [List.set] at hp)))<;>(conv=>whnf)))
 have hp0:Hp N0 w0 w [rowR 51 65 Blk.c (Sl.nil:Sl Blk),star ((Sl.nil:Sl Blk).l.map btxR),cel b2 72 (rc9 q p1 (lft (rdR N1.dec s))),cel b3 31 (Sta.c ⟨xc,xh,xl,xn,(Sl.nil:Sl Blk),xs,xo,xj⟩).toArray,cel b4 72 #[.slice none 0 0,i64 0,i64 0],cel b5 31 (Sta.c Sta.z).toArray]:=(((hp.pick [3,2,1,0] (by decide) rfl).nilStarR).nilRow 51 65 Blk.c)
 clear hp
 refine lp_inv (α:=Nat×Sl Blk×Nat×Rst) (fun a=> [(2,ptr b2),(3,ptr b3),(4,ptr b4),(5,ptr b5),(6, .int .u64 n),(7, .int .u64 a.1)]) (fun a w=>a.1≤n∧a.2.1.l.length≤a.1∧RpI (pckC N2 blkF) n (lft (rdR N1.dec s)) (n - a.1) a.2.2.2 (a.2.1.l.map Blk.p)∧RdD q.l a.2.2.1 a.2.2.2∧Hp N0 w0 w [rowR 51 65 Blk.c a.2.1,star (a.2.1.l.map btxR),cel b2 72 (rc9 q a.2.2.1 a.2.2.2),cel b3 31 (Sta.c ⟨xc,xh,xl,xn,a.2.1,xs,xo,xj⟩).toArray,cel b4 72 #[.slice none 0 0,i64 0,i64 0],cel b5 31 (Sta.c Sta.z).toArray]) (fun a=>n - a.1) (0,Sl.nil,p1,lft (rdR N1.dec s)) (by (repeat' (first|exact trivial|(refine ⟨rfl,?_⟩)))) ⟨Nat.zero_le _,Nat.zero_le _,RpI.start,hI1,hp0⟩ ?_
 clear hp0 hI hI1
 rintro ⟨i,W,p1,s1⟩ e0 w ⟨hi,hWl,hr,hI,hp⟩
 dsimp only at hi hWl hr hI hp ⊢
 have fin:(n - i=0∨cod s1≠0)→∀{w:World} {rs:List Res},Hp N0 w0 w (rowR 51 65 Blk.c W::star (W.l.map btxR)::rs)→∃(W':Sl Blk) (p':Nat),Rv (rdR (lstC N1 (pckC N2 blkF)).dec s) (W'.l.map Blk.p)∧W'.l.length < 256∧RdD q.l p' (lft (rdR (lstC N1 (pckC N2 blkF)).dec s))∧Ending.returned (.tuple #[rv9 q p1 s1,Sta.v ⟨xc,xh,xl,xn,W,xs,xo,xj⟩])= .returned (.tuple #[rv9 q p' (lft (rdR (lstC N1 (pckC N2 blkF)).dec s)),Sta.v ⟨xc,xh,xl,xn,W',xs,xo,xj⟩])∧Made (star (winRs W')) w0 w:=fun hk w rs hp=>by
  obtain ⟨hl,hv⟩:=hr.stop hk
  have hv:=rv_lst hvn hv
  have hl:=(lft_lst (C:=pckC N2 blkF) hvn).trans hl
  refine ⟨W,p1,hv,by omega,by rw [hl];exact hI,by rw [hl],hp.foldR.made1 (j:=0) rfl⟩
 rcases Nat.lt_or_ge i n with hlt|hge
 ·rcases cod_z (s:=s1) with hz|hz
  ·obtain ⟨k,hk⟩:∃k,n - i=k+1:=⟨n - i - 1,by omega⟩
   rw [hk] at hr
   have hk2:n - (i+1)=k:=by omega
   clear fin
   ((conv=>whnf);repeat' ((first|((with_reducible apply br_id);first|with_reducible refine br_t ?_|((with_reducible refine br_dec (fun hx=>?_) (fun hx=>?_))<;>(try (exfalso;first|omega|contradiction)))|((with_reducible refine br_eq (fun hx=>?_) (fun hx=>?_))<;>(try (exfalso;first|omega|contradiction))))|((with_reducible apply ld_id);apply ld_hs hp;(focus repeat' constructor);exact rfl)|((with_reducible apply ldn_id);apply lda_hs hp;(focus repeat' constructor);exact rfl))<;>(conv=>whnf)))
   refine cl_eq (rpack_any hI hq (h.keep hp.chg hB)) rfl rfl ?_
   rintro r w ⟨xb,p2,hsub,hv1,hxl,hI2,rfl,hcc⟩
   replace hp:=hp.call0 hcc
   clear hcc
   refine ⟨_,rfl,?_⟩
   have hlp:=lft_pck (F:=blkF) hv1
   rcases cod_z (s:=lft (rdR (bytC N2).dec s1)) with hz2|hz2
   ·((conv=>whnf);repeat' ((first|((with_reducible apply br_id);(with_reducible refine br_eq (fun hx=>?_) (fun hx=>?_))<;>(try (exfalso;first|omega|contradiction)))|((with_reducible apply cn_id);refine cn rfl ?_)|((with_reducible apply ld_id);apply ld_hs hp;(focus repeat' constructor);exact rfl)|((with_reducible apply ldn_id);apply lda_hs hp;(focus repeat' constructor);exact rfl)|((with_reducible apply al_id);refine al_cel hp ?_;clear hp;intro bb w hp)|((with_reducible apply st_id);apply sta_hs hp;(focus repeat' constructor);exact rfl;exact rfl;clear hp;intro w hp;(try dsimp only [List.set] at hp)))<;>(conv=>whnf)))
    refine cl_eq (rbdec_any (hsub _ _ (h.keep hp.chg hB)) (by omega)) rfl rfl ?_
    rintro r w ⟨y,c,rfl,hyl,hm,hc,hd⟩
    replace hp:=hp.add hm
    clear hm
    refine ⟨_,rfl,?_⟩
    rw [hd,cod_if] at hlp
    have hvp:Rv (rdR (pckC N2 blkF).dec s1) y.p:=rv_pck hv1 fun a ha=>by
     rw [hd] at ha
     split at ha
     ·cases ha
      rfl
     ·cases ha
    have hF:=fun {w:World}=>rFail9_any (w0:=w) c hI2
    have hI3:=RdD.fld hI2 hc
    rw [←hlp] at hF hI3
    have hr2:=hr.next hvp
    clear hd hlp hv1 hI2 hvp
    ((conv=>whnf);repeat' ((first|((with_reducible apply cn_id);refine cn rfl ?_)|((with_reducible apply ldn_id);apply lda_hs hp;(focus repeat' constructor);exact rfl)|((with_reducible apply al_id);refine al_cel hp ?_;clear hp;intro bb w hp)|((with_reducible apply st_id);apply sta_hs hp;(focus repeat' constructor);exact rfl;exact rfl;clear hp;intro w hp;(try dsimp only [List.set] at hp))|((with_reducible apply cl_id);(refine cl_eq (hF) rfl rfl ?_;rintro e w ⟨rfl,hcc⟩;replace hp:=hp.call0 hcc;refine ⟨_,rfl,?_⟩)))<;>(conv=>whnf)))
    replace hp:=((hp.pick (rs':= [_,_,_,_,_,_,_,cel bb 51 y.c.toArray]) [1,4,3,5,6,7,8,0] (by decide) rfl).snocR).perm (.swap ..)
    rw [show W.l.map btxR++ [btxR y]=(W.l++ [y]).map btxR by rw [List.map_append];rfl] at hp
    refine dr_autos [] 6 tabOk (by kernel_rfl) (by decide+kernel) ?_
    replace hp:=hp.drew
    ((conv=>whnf);repeat' ((first|((with_reducible apply ar_id);(refine ar_un9 (i+1) (by omega) (by omega) ?_))|((with_reducible apply cn_id);first|refine cn rfl ?_|refine cn ‹_› ?_)|((with_reducible apply ld_id);apply ld_hs hp;(focus repeat' constructor);exact rfl)|((with_reducible apply ldn_id);apply lda_hs hp;(focus repeat' constructor);exact rfl)|((with_reducible apply st_id);apply st_hs hp;(focus repeat' constructor);exact rfl;exact rfl;clear hp;intro w hp;(try dsimp only [List.set] at hp))|((with_reducible apply gen_id);first|((refine gen_bs rfl hp el_blkR Blk.c [] [] rfl rfl rfl (fun _ hh=>by cases hh) (by omega) ?_);clear hp;intro bq w hp)|((refine gen_bs rfl hp el_blkR Blk.c [y] [Blk.v y] rfl rfl rfl (fun _ hh=>by simp at hh;subst hh;rfl) (by omega) ?_);clear hp;intro br w hp)|((refine gen_appe rfl hp 0 rfl el_blkR rfl ⟨rfl,rfl,rfl⟩ W rfl (hp.row (j:=1) rfl) (fun _ _=>rfl) blk_oneR (by omega) (by simp only [maxLen];omega) ?_);clear hp;intro A1 c1 w hcc hp;dsimp only [List.set] at hp)|((refine gen_appe rfl hp 0 rfl el_blkR rfl ⟨rfl,rfl,rfl⟩ W rfl (hp.row (j:=2) rfl) (fun _ _=>rfl) blk_oneR (by omega) (by simp only [maxLen];omega) ?_);clear hp;intro A1 c1 w hcc hp;dsimp only [List.set] at hp)|((refine gen_appe rfl hp 1 rfl el_blkR rfl ⟨rfl,rfl,rfl⟩ W rfl (hp.row (j:=2) rfl) (fun _ _=>rfl) blk_oneR (by omega) (by simp only [maxLen];omega) ?_);clear hp;intro A1 c1 w hcc hp;dsimp only [List.set] at hp)|((refine gen_app (s:=⟨A1,c1,W.l⟩) rfl hp 1 rfl el_blkR rfl ⟨some ⟨br,0,none⟩,1, [y]⟩ rfl (hp.row (j:=0) rfl) (fun _ _=>rfl) blk_oneR (by simp only [List.length_cons,List.length_nil];omega) (by simp only [maxLen,List.length_cons,List.length_nil];omega) ?_);clear hp;intro A2 c2 w hp;dsimp only [List.set] at hp)|((refine gen_app (s:=⟨A1,c1,W.l⟩) rfl hp 0 rfl el_blkR rfl ⟨some ⟨br,0,none⟩,1, [y]⟩ rfl (hp.row (j:=1) rfl) (fun _ _=>rfl) blk_oneR (by simp only [List.length_cons,List.length_nil];omega) (by simp only [maxLen,List.length_cons,List.length_nil];omega) ?_);clear hp;intro A2 c2 w hp;dsimp only [List.set] at hp))|((with_reducible apply fk_id);refine fk_mk ?_ ?_))<;>(conv=>whnf)))
    all_goals refine lp_next (i+1,(⟨A2,c2,W.l++ [y]⟩:Sl Blk),p2,lft (rdR (pckC N2 blkF).dec s1)) (by show n - (i+1) < n - i;omega) (by (repeat' (first|exact trivial|(refine ⟨rfl,?_⟩)))) ⟨by show i+1≤n;omega,by show (W.l++ [y]).length≤i+1;rw [List.length_append];simp only [List.length_cons,List.length_nil];omega,by show RpI _ _ _ (n - (i+1)) _ _;rw [hk2,List.map_append];exact hr2,hI3,?_⟩
    all_goals first
     |exact hp.pick [1,3,4,5,6,7] (by decide) rfl
     |exact hp.pick [0,3,4,5,6,7] (by decide) rfl
   ·have he2:lft (rdR (pckC N2 blkF).dec s1)=lft (rdR (bytC N2).dec s1):=hlp.trans (fld_bad hz2)
    have hr2:=(hr.next (x:=(⟨Id.z,Id.z, []⟩:BlkP)) (rv_pckbad hz2)).bad (acc':=W.l.map Blk.p) (by rw [he2];exact hz2)
    rw [he2] at hr2
    ((conv=>whnf);repeat' ((first|((with_reducible apply br_id);(with_reducible refine br_eq (fun hx=>?_) (fun hx=>?_))<;>(try (exfalso;first|omega|contradiction)))|((with_reducible apply ar_id);(refine ar_un9 (i+1) (by omega) (by omega) ?_))|((with_reducible apply cn_id);refine cn rfl ?_)|((with_reducible apply ld_id);apply ld_hs hp;(focus repeat' constructor);exact rfl)|((with_reducible apply ldn_id);apply lda_hs hp;(focus repeat' constructor);exact rfl)|((with_reducible apply al_id);refine al_cel hp ?_;clear hp;intro bb w hp)|((with_reducible apply st_id);apply sta_hs hp;(focus repeat' constructor);exact rfl;exact rfl;clear hp;intro w hp;(try dsimp only [List.set] at hp)))<;>(conv=>whnf)))
    exact lp_next (i+1,W,p2,lft (rdR (bytC N2).dec s1)) (by show n - (i+1) < n - i;omega) (by (repeat' (first|exact trivial|(refine ⟨rfl,?_⟩)))) ⟨by show i+1≤n;omega,by show W.l.length≤i+1;omega,by show RpI _ _ _ (n - (i+1)) _ _;rw [hk2];exact hr2,hI2,hp.pick [1,2,3,4,5,6] (by decide) rfl⟩
  ·((conv=>whnf);repeat' ((first|((with_reducible apply br_id);first|with_reducible refine br_t ?_|((with_reducible refine br_dec (fun hx=>?_) (fun hx=>?_))<;>(try (exfalso;first|omega|contradiction)))|((with_reducible refine br_eq (fun hx=>?_) (fun hx=>?_))<;>(try (exfalso;first|omega|contradiction))))|((with_reducible apply ld_id);apply ld_hs hp;(focus repeat' constructor);exact rfl))<;>(conv=>whnf)))
   refine dr_autoi [0,1] (fun w=>w.heap[b2]? =some (.cells (rc9 q p1 s1) 72)∧w.heap[b3]? =some (.cells (Sta.c ⟨xc,xh,xl,xn,W,xs,xo,xj⟩).toArray 31)) tabOk (by kernel_rfl) (by decide+kernel) rfl ⟨hp.drew.cel_get (j:=2) rfl,hp.drew.cel_get (j:=3) rfl⟩ ?_
   replace hp:=hp.drew
   ((conv=>whnf);repeat' ((first|((with_reducible apply cn_id);first|(refine cn ⟨hp.cel_get (j:=2) rfl,hp.cel_get (j:=3) rfl⟩ ?_)|refine cn rfl ?_)|((with_reducible apply ldn_id);apply lda_hs hp;(focus repeat' constructor);exact rfl)|((with_reducible apply st_id);apply sta_hs hp;(focus repeat' constructor);exact rfl;exact rfl;clear hp;intro w hp;(try dsimp only [List.set] at hp))|((with_reducible apply lni_id);first|((refine lni_of (fun w h=>h.1) rfl ?_))|((refine lni_of (fun w h=>h.2) rfl ?_))))<;>(conv=>whnf)))
   exact ps_val (v':= .tuple #[rv9 q p1 s1,Sta.v ⟨xc,xh,xl,xn,W,xs,xo,xj⟩]) rfl (fin (.inr hz) hp)
 ·((conv=>whnf);repeat' (((with_reducible apply br_id);first|with_reducible refine br_f ?_|((with_reducible refine br_dec (fun hx=>?_) (fun hx=>?_))<;>(try (exfalso;first|omega|contradiction))))<;>(conv=>whnf)))
  refine dr_autoi [0,1] (fun w=>w.heap[b2]? =some (.cells (rc9 q p1 s1) 72)∧w.heap[b3]? =some (.cells (Sta.c ⟨xc,xh,xl,xn,W,xs,xo,xj⟩).toArray 31)) tabOk (by kernel_rfl) (by decide+kernel) rfl ⟨hp.drew.cel_get (j:=2) rfl,hp.drew.cel_get (j:=3) rfl⟩ ?_
  replace hp:=hp.drew
  ((conv=>whnf);repeat' ((first|((with_reducible apply cn_id);first|(refine cn ⟨hp.cel_get (j:=2) rfl,hp.cel_get (j:=3) rfl⟩ ?_)|refine cn rfl ?_)|((with_reducible apply ldn_id);apply lda_hs hp;(focus repeat' constructor);exact rfl)|((with_reducible apply st_id);apply sta_hs hp;(focus repeat' constructor);exact rfl;exact rfl;clear hp;intro w hp;(try dsimp only [List.set] at hp))|((with_reducible apply lni_id);first|((refine lni_of (fun w h=>h.1) rfl ?_))|((refine lni_of (fun w h=>h.2) rfl ?_))))<;>(conv=>whnf)))
  exact ps_val (v':= .tuple #[rv9 q p1 s1,Sta.v ⟨xc,xh,xl,xn,W,xs,xo,xj⟩]) rfl (fin (.inl (by omega)) hp)
end
theorem len4 {α:Type}:∀{l:List α},l.length=4→∃a b c d,l= [a,b,c,d]
 | [a,b,c,d],_=>⟨a,b,c,d,rfl⟩
theorem len2 {α:Type}:∀{l:List α},l.length=2→∃a b,l= [a,b]
 | [a,b],_=>⟨a,b,rfl⟩
section
variable {w0 : World} {p B : Nat} {q : Sl UInt8} {s : Rst}
theorem rsessions_any (x:Sta) (hx:x.ses=Sl.nil) (hI:RdD q.l p s) (hq:q.l.length≤1000000) (h:SlAt B w0 u8L 1 q):Calls Tryz.prog 30 #[rv9 q p s,x.v] w0 fun r w'=>
  ∃(W:Sl Sess) (p':Nat),Rv (rdR (lstC N1 (sesC)).dec s) W.l∧W.l.length < 256∧RdD q.l p' (lft (rdR (lstC N1 (sesC)).dec s))∧r= .returned (.tuple #[rv9 q p' (lft (rdR (lstC N1 (sesC)).dec s)),Sta.v ⟨x.cfg,x.ht,x.halt,x.next,x.win,W,x.blobs,x.jobs⟩])∧Made (sesR W) w0 w':=by
 have hp:=Hp.start (S:=N0) w0
 have hB:∀b,N0 b→B≤b:=fun _ hh=>hh.elim
 obtain ⟨xc,xh,xl,xn,xw,xs,xo,xj⟩:=x
 dsimp only at hx ⊢
 subst hx
 refine calls_x (args:= [_,_]) tabOk Tryz.func30 Tryz.ntmps30 Tryz.results30 rfl (Nat.le_of_ble_eq_true rfl) ?_
 ((conv=>whnf);repeat' ((first|((with_reducible apply ldn_id);apply lda_hs hp;(focus repeat' constructor);exact rfl)|((with_reducible apply al_id);refine al_cel hp ?_;clear hp;intro bb w hp))<;>(conv=>whnf)))
 obtain ⟨b5,hb5⟩:∃b,b=bb:=⟨_,rfl⟩
 subst hb5
 obtain ⟨b4,hb4⟩:∃b,b=bb:=⟨_,rfl⟩
 subst hb4
 obtain ⟨b3,hb3⟩:∃b,b=bb:=⟨_,rfl⟩
 subst hb3
 obtain ⟨b2,hb2⟩:∃b,b=bb:=⟨_,rfl⟩
 subst hb2
 refine cl_eq (rNum9_any 1 N1 (fun _=>rfl) (by omega) hI hq (h.keep hp.chg hB)) rfl rfl ?_
 rintro r w ⟨n,p1,hvn,hn,hI1,rfl,hcc⟩
 replace hp:=hp.call0 hcc
 clear hcc
 refine ⟨_,rfl,?_⟩
 have hn:n < 256:=hn
 ((conv=>whnf);repeat' ((first|((with_reducible apply cn_id);refine cn rfl ?_)|((with_reducible apply st_id);apply sta_hs hp;(focus repeat' constructor);exact rfl;exact rfl;clear hp;intro w hp;(try dsimp only [List.set] at hp)))<;>(conv=>whnf)))
 have hp0:Hp N0 w0 w [rowR 103 4 Sess.c (Sl.nil:Sl Sess),cel b2 72 (rc9 q p1 (lft (rdR N1.dec s))),cel b3 31 (Sta.c ⟨xc,xh,xl,xn,xw,(Sl.nil:Sl Sess),xo,xj⟩).toArray,cel b4 72 #[.slice none 0 0,i64 0,i64 0],cel b5 31 (Sta.c Sta.z).toArray]:=((hp.pick [3,2,1,0] (by decide) rfl).nilRow 103 4 Sess.c)
 clear hp
 refine lp_inv (α:=Nat×Sl Sess×Nat×Rst) (fun a=> [(2,ptr b2),(3,ptr b3),(4,ptr b4),(5,ptr b5),(6, .int .u64 n),(7, .int .u64 a.1)]) (fun a w=>a.1≤n∧a.2.1.l.length≤a.1∧RpI (sesC) n (lft (rdR N1.dec s)) (n - a.1) a.2.2.2 a.2.1.l∧RdD q.l a.2.2.1 a.2.2.2∧Hp N0 w0 w [rowR 103 4 Sess.c a.2.1,cel b2 72 (rc9 q a.2.2.1 a.2.2.2),cel b3 31 (Sta.c ⟨xc,xh,xl,xn,xw,a.2.1,xo,xj⟩).toArray,cel b4 72 #[.slice none 0 0,i64 0,i64 0],cel b5 31 (Sta.c Sta.z).toArray]) (fun a=>n - a.1) (0,Sl.nil,p1,lft (rdR N1.dec s)) (by (repeat' (first|exact trivial|(refine ⟨rfl,?_⟩)))) ⟨Nat.zero_le _,Nat.zero_le _,RpI.start,hI1,hp0⟩ ?_
 clear hp0 hI hI1
 rintro ⟨i,W,p1,s1⟩ e0 w ⟨hi,hWl,hr,hI,hp⟩
 dsimp only at hi hWl hr hI hp ⊢
 have fin:(n - i=0∨cod s1≠0)→∀{w:World} {rs:List Res},Hp N0 w0 w (rowR 103 4 Sess.c W::rs)→∃(W':Sl Sess) (p':Nat),Rv (rdR (lstC N1 (sesC)).dec s) W'.l∧W'.l.length < 256∧RdD q.l p' (lft (rdR (lstC N1 (sesC)).dec s))∧Ending.returned (.tuple #[rv9 q p1 s1,Sta.v ⟨xc,xh,xl,xn,xw,W,xo,xj⟩])= .returned (.tuple #[rv9 q p' (lft (rdR (lstC N1 (sesC)).dec s)),Sta.v ⟨xc,xh,xl,xn,xw,W',xo,xj⟩])∧Made (sesR W') w0 w:=fun hk w rs hp=>by
  obtain ⟨hl,hv⟩:=hr.stop hk
  have hv:=rv_lst hvn hv
  have hl:=(lft_lst (C:=sesC) hvn).trans hl
  refine ⟨W,p1,hv,by omega,by rw [hl];exact hI,by rw [hl],hp.made1 (j:=0) rfl⟩
 rcases Nat.lt_or_ge i n with hlt|hge
 ·rcases cod_z (s:=s1) with hz|hz
  ·obtain ⟨k,hk⟩:∃k,n - i=k+1:=⟨n - i - 1,by omega⟩
   rw [hk] at hr
   have hk2:n - (i+1)=k:=by omega
   clear fin
   ((conv=>whnf);repeat' ((first|((with_reducible apply br_id);first|with_reducible refine br_t ?_|((with_reducible refine br_dec (fun hx=>?_) (fun hx=>?_))<;>(try (exfalso;first|omega|contradiction)))|((with_reducible refine br_eq (fun hx=>?_) (fun hx=>?_))<;>(try (exfalso;first|omega|contradiction))))|((with_reducible apply ld_id);apply ld_hs hp;(focus repeat' constructor);exact rfl)|((with_reducible apply ldn_id);apply lda_hs hp;(focus repeat' constructor);exact rfl))<;>(conv=>whnf)))
   refine cl_eq (rpiece_any 4 (by omega) hI hq (h.keep hp.chg hB)) rfl rfl ?_
   rintro r w ⟨L,p2,s2,hLl,hpc,hI2,rfl,hm⟩
   replace hp:=hp.add hm
   clear hm
   refine ⟨_,rfl,?_⟩
   obtain ⟨x1,x2,x3,x4,hL⟩:=len4 hLl
   rw [hL] at hpc
   obtain ⟨v1,v2,v3,v4,rfl⟩:=hpc
   have hvp:Rv (rdR (sesC).dec s1) ⟨x1,x2,x3,x4⟩:=rv_map (rv_seq v1 (rv_seq v2 (rv_seq v3 v4)))
   have hl:lft (rdR (sesC).dec s1)=_:=lft_map.trans (lft_seq.trans (lft_seq.trans lft_seq))
   rw [←hl] at hI2 ⊢
   have hr2:=hr.next hvp
   obtain ⟨bL,oL,zL,hA, -, -, -⟩:=(hp.row (j:=0) rfl).has (i:=0) (by omega)
   have hk0:L.l[0]? =some x1:=by rw [hL];rfl
   have hk1:L.l[1]? =some x2:=by rw [hL];rfl
   have hk2':L.l[2]? =some x3:=by rw [hL];rfl
   have hk3:L.l[3]? =some x4:=by rw [hL];rfl
   clear v1 v2 v3 v4 hl hr hI hvp
   ((conv=>whnf);repeat' ((first|((with_reducible apply cn_id);refine cn rfl ?_)|((with_reducible apply ldn_id);apply lda_hs hp;(focus repeat' constructor);exact rfl)|((with_reducible apply al_id);refine al_cel hp ?_;clear hp;intro bb w hp)|((with_reducible apply st_id);apply sta_hs hp;(focus repeat' constructor);exact rfl;exact rfl;clear hp;intro w hp;(try dsimp only [List.set] at hp)))<;>(conv=>whnf)))
   replace hp:=hp.pick (rs':= [_,_,_,_,_,_]) [2,3,4,5,6,1] (by decide) rfl
   refine dr_autos [] 18 tabOk (by kernel_rfl) (by decide+kernel) ?_
   replace hp:=hp.drew
   ((conv=>whnf);repeat' ((first|((with_reducible apply ar_id);(refine ar_un9 (i+1) (by omega) (by omega) ?_))|((with_reducible apply cn_id);first|refine cn rfl ?_|refine cn ‹_› ?_)|((with_reducible apply ld_id);first|(refine ld_own0 hp 5 rfl hA 0 rfl hk0 rfl ?_)|(refine ld_own0 hp 5 rfl hA 1 rfl hk1 rfl ?_)|(refine ld_own0 hp 5 rfl hA 2 rfl hk2' rfl ?_)|(refine ld_own0 hp 5 rfl hA 3 rfl hk3 rfl ?_)|(apply ld_hs hp;(focus repeat' constructor);exact rfl))|((with_reducible apply st_id);apply st_hs hp;(focus repeat' constructor);exact rfl;exact rfl;clear hp;intro w hp;(try dsimp only [List.set] at hp))|((with_reducible apply gen_id);first|((refine gen_bs rfl hp el_ses Sess.c [] [] rfl rfl rfl (fun _ hh=>by cases hh) (by omega) ?_);clear hp;intro bq w hp)|((refine gen_bs rfl hp el_ses Sess.c [⟨x1,x2,x3,x4⟩] [Sess.v ⟨x1,x2,x3,x4⟩] rfl rfl rfl (fun _ hh=>by simp at hh;subst hh;rfl) (by omega) ?_);clear hp;intro br w hp)|((refine gen_appe rfl hp 0 rfl el_ses rfl ⟨rfl,rfl,rfl⟩ W rfl (hp.row (j:=1) rfl) (fun _ _=>rfl) ses_one (by omega) (by simp only [maxLen];omega) ?_);clear hp;intro A1 c1 w hcc hp;dsimp only [List.set] at hp)|((refine gen_appe rfl hp 0 rfl el_ses rfl ⟨rfl,rfl,rfl⟩ W rfl (hp.row (j:=2) rfl) (fun _ _=>rfl) ses_one (by omega) (by simp only [maxLen];omega) ?_);clear hp;intro A1 c1 w hcc hp;dsimp only [List.set] at hp)|((refine gen_appe rfl hp 1 rfl el_ses rfl ⟨rfl,rfl,rfl⟩ W rfl (hp.row (j:=2) rfl) (fun _ _=>rfl) ses_one (by omega) (by simp only [maxLen];omega) ?_);clear hp;intro A1 c1 w hcc hp;dsimp only [List.set] at hp)|((refine gen_app (s:=⟨A1,c1,W.l⟩) rfl hp 1 rfl el_ses rfl ⟨some ⟨br,0,none⟩,1, [⟨x1,x2,x3,x4⟩]⟩ rfl (hp.row (j:=0) rfl) (fun _ _=>rfl) ses_one (by simp only [List.length_cons,List.length_nil];omega) (by simp only [maxLen,List.length_cons,List.length_nil];omega) ?_);clear hp;intro A2 c2 w hp;dsimp only [List.set] at hp)|((refine gen_app (s:=⟨A1,c1,W.l⟩) rfl hp 0 rfl el_ses rfl ⟨some ⟨br,0,none⟩,1, [⟨x1,x2,x3,x4⟩]⟩ rfl (hp.row (j:=1) rfl) (fun _ _=>rfl) ses_one (by simp only [List.length_cons,List.length_nil];omega) (by simp only [maxLen,List.length_cons,List.length_nil];omega) ?_);clear hp;intro A2 c2 w hp;dsimp only [List.set] at hp)|(apply gen_build;exact rfl;exact rfl))|((with_reducible apply fk_id);refine fk_mk ?_ ?_)|((with_reducible apply rd_id);(refine rd_ixs (sz:=1) (n0:=0) rfl rfl hA rfl (by kernel_rfl) (by omega) ?_)))<;>(conv=>whnf)))
   all_goals refine lp_next (i+1,(⟨A2,c2,W.l++ [⟨x1,x2,x3,x4⟩]⟩:Sl Sess),p2,lft (rdR (sesC).dec s1)) (by show n - (i+1) < n - i;omega) (by (repeat' (first|exact trivial|(refine ⟨rfl,?_⟩)))) ⟨by show i+1≤n;omega,by show (W.l++ [_]).length≤i+1;rw [List.length_append];simp only [List.length_cons,List.length_nil];omega,by show RpI _ _ _ (n - (i+1)) _ _;rw [hk2];exact hr2,hI2,?_⟩
   all_goals first
    |exact hp.pick [1,3,4,5,6] (by decide) rfl
    |exact hp.pick [0,3,4,5,6] (by decide) rfl
  ·((conv=>whnf);repeat' ((first|((with_reducible apply br_id);first|with_reducible refine br_t ?_|((with_reducible refine br_dec (fun hx=>?_) (fun hx=>?_))<;>(try (exfalso;first|omega|contradiction)))|((with_reducible refine br_eq (fun hx=>?_) (fun hx=>?_))<;>(try (exfalso;first|omega|contradiction))))|((with_reducible apply ld_id);apply ld_hs hp;(focus repeat' constructor);exact rfl))<;>(conv=>whnf)))
   refine dr_autoi [0,1] (fun w=>w.heap[b2]? =some (.cells (rc9 q p1 s1) 72)∧w.heap[b3]? =some (.cells (Sta.c ⟨xc,xh,xl,xn,xw,W,xo,xj⟩).toArray 31)) tabOk (by kernel_rfl) (by decide+kernel) rfl ⟨hp.drew.cel_get (j:=1) rfl,hp.drew.cel_get (j:=2) rfl⟩ ?_
   replace hp:=hp.drew
   ((conv=>whnf);repeat' ((first|((with_reducible apply cn_id);first|(refine cn ⟨hp.cel_get (j:=1) rfl,hp.cel_get (j:=2) rfl⟩ ?_)|refine cn rfl ?_)|((with_reducible apply ldn_id);apply lda_hs hp;(focus repeat' constructor);exact rfl)|((with_reducible apply st_id);apply sta_hs hp;(focus repeat' constructor);exact rfl;exact rfl;clear hp;intro w hp;(try dsimp only [List.set] at hp))|((with_reducible apply lni_id);first|((refine lni_of (fun w h=>h.1) rfl ?_))|((refine lni_of (fun w h=>h.2) rfl ?_))))<;>(conv=>whnf)))
   exact ps_val (v':= .tuple #[rv9 q p1 s1,Sta.v ⟨xc,xh,xl,xn,xw,W,xo,xj⟩]) rfl (fin (.inr hz) hp)
 ·((conv=>whnf);repeat' (((with_reducible apply br_id);first|with_reducible refine br_f ?_|((with_reducible refine br_dec (fun hx=>?_) (fun hx=>?_))<;>(try (exfalso;first|omega|contradiction))))<;>(conv=>whnf)))
  refine dr_autoi [0,1] (fun w=>w.heap[b2]? =some (.cells (rc9 q p1 s1) 72)∧w.heap[b3]? =some (.cells (Sta.c ⟨xc,xh,xl,xn,xw,W,xo,xj⟩).toArray 31)) tabOk (by kernel_rfl) (by decide+kernel) rfl ⟨hp.drew.cel_get (j:=1) rfl,hp.drew.cel_get (j:=2) rfl⟩ ?_
  replace hp:=hp.drew
  ((conv=>whnf);repeat' ((first|((with_reducible apply cn_id);first|(refine cn ⟨hp.cel_get (j:=1) rfl,hp.cel_get (j:=2) rfl⟩ ?_)|refine cn rfl ?_)|((with_reducible apply ldn_id);apply lda_hs hp;(focus repeat' constructor);exact rfl)|((with_reducible apply st_id);apply sta_hs hp;(focus repeat' constructor);exact rfl;exact rfl;clear hp;intro w hp;(try dsimp only [List.set] at hp))|((with_reducible apply lni_id);first|((refine lni_of (fun w h=>h.1) rfl ?_))|((refine lni_of (fun w h=>h.2) rfl ?_))))<;>(conv=>whnf)))
  exact ps_val (v':= .tuple #[rv9 q p1 s1,Sta.v ⟨xc,xh,xl,xn,xw,W,xo,xj⟩]) rfl (fin (.inl (by omega)) hp)
end
end Go.Proofs.YtpbapnlnheahnaaGreatDoor
