/- MImprintReads34: parts of the proof of ImprintReads: Rdr7, Rdr8, Shelf4, Shelf5, Shelf6, Shelf7, Shelf8. No condition of their own. -/
import Derived.Test.YtpbapnlnheahnaaGreatDoorMImprintReads33
import Derived.Test.YtpbapnlnheahnaaGreatDoorMImprintReads26
import Derived.Test.YtpbapnlnheahnaaGreatDoorMImprintReads16
import Derived.Laws.OwnMore
import Derived.Test.YtpbapnlnheahnaaGreatDoorMImprintReads22
set_option linter.unusedSimpArgs false
set_option linter.unusedVariables false
namespace Go.Proofs.YtpbapnlnheahnaaGreatDoor
open Go.RowKit Go.Stop
set_option maxRecDepth 100000
set_option maxHeartbeats 500000
theorem st_mid {S:Nat→Prop} {w0 w:World} {rs:List Res} {b:Nat} {t:TypeId} {A C:List Value} {l:List UInt8} (h:Hp S w0 w rs) (j:Nat) (hj:rs[j]? =some (cel b t (A++l.map u8++C).toArray)) {a:Addr} (i:Nat) (ha:a=⟨b,A.length+i,none⟩) (x:UInt8) {vs:List Value} (hv:vs= [u8 x]) (hi:i < l.length) {k:World→Prop}
  (hk:∀w',Hp S w0 w' (rs.set j (cel b t (A++(l.set i x).map u8++C).toArray))→k w'):St w a vs k:=by
 subst ha hv
 refine st_cel h j hj rfl (by simp;omega) fun w' hw=>hk w' ?_
 have e:lay [u8 x] (A.length+i) (A++l.map u8++C).toArray=(A++(l.set i x).map u8++C).toArray:=by
  simp only [lay,List.setIfInBounds_toArray]
  rw [List.append_assoc,List.set_append_right _ _ (by omega),Nat.add_sub_cancel_left,List.set_append_left _ _ (by simpa using hi),List.map_set,List.append_assoc]
 rwa [e] at hw
theorem ad2 (b k:Nat):(⟨b,2+k*1,none⟩:Addr)=⟨b,2+k,none⟩:=by rw [Nat.mul_one]
theorem rv_blob {s:Rst} {x1 x2:UInt32} {X:Hint} {d:Sl UInt8} (h1:Rv (rdR u32C.dec s) x1) (h2:Rv (rdR u32C.dec (lft (rdR u32C.dec s))) x2) (h3:Rv (rdR hintC.dec (lft (rdR u32C.dec (lft (rdR u32C.dec s))))) X) (h4:Rv (rdR (bytC N2).dec (lft (rdR hintC.dec (lft (rdR u32C.dec (lft (rdR u32C.dec s))))))) d.l):Rv (rdR blobC.dec s) (Blob.p ⟨⟨x1,x2⟩,X,d⟩):=rv_map (rv_seq h1 (rv_seq h2 (rv_seq h3 h4)))
theorem rv_job {s:Rst} {x1 x2 x3 x4:UInt32} {X:Id} {y:List TkV} (h1:Rv (rdR u32C.dec s) x1) (h2:Rv (rdR u32C.dec (lft (rdR u32C.dec s))) x2) (h3:Rv (rdR idC.dec (lft (rdR u32C.dec (lft (rdR u32C.dec s))))) X) (h4:Rv (rdR u32C.dec (lft (rdR idC.dec (lft (rdR u32C.dec (lft (rdR u32C.dec s))))))) x3) (h5:Rv (rdR u32C.dec (lft (rdR u32C.dec (lft (rdR idC.dec (lft (rdR u32C.dec (lft (rdR u32C.dec s))))))))) x4) (h6:Rv (rdR (pckC N2 payF).dec (lft (rdR u32C.dec (lft (rdR u32C.dec (lft (rdR idC.dec (lft (rdR u32C.dec (lft (rdR u32C.dec s))))))))))) y):Rv (rdR jobC.dec s) ⟨⟨x1,x2⟩,X,x3,x4, -1,y⟩:=rv_map (rv_seq h1 (rv_seq h2 (rv_seq h3 (rv_seq h4 (rv_seq h5 h6)))))
theorem cod_back {α:Type} {D:Byt→Except Int (α×Byt)} {s:Rst} (h:cod (lft (rdR D s))=0):cod s=0:=by
 cases s with
 |error e=>exact h
 |ok l=>rfl
section
variable {w0 : World} {p B : Nat} {q : Sl UInt8} {s : Rst}
theorem rblobs_any (x:Sta) (hx:x.blobs=Sl.nil) (hI:RdD q.l p s) (hq:q.l.length≤1000000) (h:SlAt B w0 u8L 1 q):Calls Tryz.prog 31 #[rv9 q p s,x.v] w0 fun r w'=>
  ∃(W:Sl Blob) (p':Nat),Rv (rdR (lstC N2 blobC).dec s) (W.l.map Blob.p)∧W.l.length < 65536∧(∀y∈W.l,SubQ q y.data)∧RdD q.l p' (lft (rdR (lstC N2 blobC).dec s))∧r= .returned (.tuple #[rv9 q p' (lft (rdR (lstC N2 blobC).dec s)),Sta.v ⟨x.cfg,x.ht,x.halt,x.next,x.win,x.ses,W,x.jobs⟩])∧Made (rowR 46 19 Blob.c W) w0 w':=by
 have hp:=Hp.start (S:=N0) w0
 have hB:∀b,N0 b→B≤b:=fun _ hh=>hh.elim
 obtain ⟨xc,xh,xl,xn,xw,xs,xo,xj⟩:=x
 dsimp only at hx ⊢
 subst hx
 refine calls_x (args:= [_,_]) tabOk Tryz.func31 Tryz.ntmps31 Tryz.results31 rfl (Nat.le_of_ble_eq_true rfl) ?_
 ((conv=>whnf);repeat' ((first|((with_reducible apply ldn_id);apply lda_hs hp;(focus repeat' constructor);exact rfl)|((with_reducible apply al_id);refine al_cel hp ?_;clear hp;intro bb w hp))<;>(conv=>whnf)))
 obtain ⟨b5,hb5⟩:∃b,b=bb:=⟨_,rfl⟩
 subst hb5
 obtain ⟨b4,hb4⟩:∃b,b=bb:=⟨_,rfl⟩
 subst hb4
 obtain ⟨b3,hb3⟩:∃b,b=bb:=⟨_,rfl⟩
 subst hb3
 obtain ⟨b2,hb2⟩:∃b,b=bb:=⟨_,rfl⟩
 subst hb2
 refine cl_eq (rNum9_any 2 N2 (fun _=>rfl) (by omega) hI hq (h.keep hp.chg hB)) rfl rfl ?_
 rintro r w ⟨n,p1,hvn,hn,hI1,rfl,hcc⟩
 replace hp:=hp.call0 hcc
 clear hcc
 refine ⟨_,rfl,?_⟩
 have hn:n < 65536:=hn
 ((conv=>whnf);repeat' ((first|((with_reducible apply cn_id);refine cn rfl ?_)|((with_reducible apply st_id);apply sta_hs hp;(focus repeat' constructor);exact rfl;exact rfl;clear hp;intro w hp;(try dsimp only [List.set] at hp)))<;>(conv=>whnf)))
 have hp0:Hp N0 w0 w [rowR 46 19 Blob.c (Sl.nil:Sl Blob),cel b2 72 (rc9 q p1 (lft (rdR N2.dec s))),cel b3 31 (Sta.c ⟨xc,xh,xl,xn,xw,xs,(Sl.nil:Sl Blob),xj⟩).toArray,cel b4 72 #[.slice none 0 0,i64 0,i64 0],cel b5 31 (Sta.c Sta.z).toArray]:=((hp.pick [3,2,1,0] (by decide) rfl).nilRow 46 19 Blob.c)
 clear hp
 refine lp_inv (α:=Nat×Sl Blob×Nat×Rst) (fun a=> [(2,ptr b2),(3,ptr b3),(4,ptr b4),(5,ptr b5),(6, .int .u64 n),(7, .int .u64 a.1)]) (fun a w=>a.1≤n∧a.2.1.l.length≤a.1∧(∀y∈a.2.1.l,SubQ q y.data)∧RpI blobC n (lft (rdR N2.dec s)) (n - a.1) a.2.2.2 (a.2.1.l.map Blob.p)∧RdD q.l a.2.2.1 a.2.2.2∧Hp N0 w0 w [rowR 46 19 Blob.c a.2.1,cel b2 72 (rc9 q a.2.2.1 a.2.2.2),cel b3 31 (Sta.c ⟨xc,xh,xl,xn,xw,xs,a.2.1,xj⟩).toArray,cel b4 72 #[.slice none 0 0,i64 0,i64 0],cel b5 31 (Sta.c Sta.z).toArray]) (fun a=>n - a.1) (0,Sl.nil,p1,lft (rdR N2.dec s)) (by (repeat' (first|exact trivial|(refine ⟨rfl,?_⟩)))) ⟨Nat.zero_le _,Nat.zero_le _,(fun y hy=>by cases hy),RpI.start,hI1,hp0⟩ ?_
 clear hp0 hI hI1
 rintro ⟨i,W,p1,s1⟩ e0 w ⟨hi,hWl,hWs,hr,hI,hp⟩
 dsimp only at hi hWl hWs hr hI hp ⊢
 have fin:(n - i=0∨cod s1≠0)→∀{w:World} {rs:List Res},Hp N0 w0 w (rowR 46 19 Blob.c W::rs)→∃(W':Sl Blob) (p':Nat),Rv (rdR (lstC N2 blobC).dec s) (W'.l.map Blob.p)∧W'.l.length < 65536∧(∀y∈W'.l,SubQ q y.data)∧RdD q.l p' (lft (rdR (lstC N2 blobC).dec s))∧Ending.returned (.tuple #[rv9 q p1 s1,Sta.v ⟨xc,xh,xl,xn,xw,xs,W,xj⟩])= .returned (.tuple #[rv9 q p' (lft (rdR (lstC N2 blobC).dec s)),Sta.v ⟨xc,xh,xl,xn,xw,xs,W',xj⟩])∧Made (rowR 46 19 Blob.c W') w0 w:=fun hk w rs hp=>by
  obtain ⟨hl,hv⟩:=hr.stop hk
  have hv:=rv_lst hvn hv
  have hl:=(lft_lst (C:=blobC) hvn).trans hl
  refine ⟨W,p1,hv,by omega,hWs,by rw [hl];exact hI,by rw [hl],hp.made1 (j:=0) rfl⟩
 rcases Nat.lt_or_ge i n with hlt|hge
 ·rcases cod_z (s:=s1) with hz|hz
  ·obtain ⟨k,hk⟩:∃k,n - i=k+1:=⟨n - i - 1,by omega⟩
   rw [hk] at hr
   have hk2:n - (i+1)=k:=by omega
   clear fin
   ((conv=>whnf);repeat' ((first|((with_reducible apply br_id);first|with_reducible refine br_t ?_|((with_reducible refine br_dec (fun hx=>?_) (fun hx=>?_))<;>(try (exfalso;first|omega|contradiction)))|((with_reducible refine br_eq (fun hx=>?_) (fun hx=>?_))<;>(try (exfalso;first|omega|contradiction))))|((with_reducible apply ld_id);apply ld_hs hp;(focus repeat' constructor);exact rfl)|((with_reducible apply ldn_id);apply lda_hs hp;(focus repeat' constructor);exact rfl))<;>(conv=>whnf)))
   refine cl_eq (rpiece_any 2 (by omega) hI hq (h.keep hp.chg hB)) rfl rfl ?_
   rintro r w ⟨L,p2,s2,hLl,hpc,hI2,rfl,hm⟩
   replace hp:=hp.add hm
   clear hm
   refine ⟨_,rfl,?_⟩
   obtain ⟨x1,x2,hL⟩:=len2 hLl
   rw [hL] at hpc
   obtain ⟨v1,v2,rfl⟩:=hpc
   ((conv=>whnf);repeat' ((first|((with_reducible apply cn_id);refine cn rfl ?_)|((with_reducible apply ldn_id);apply lda_hs hp;(focus repeat' constructor);exact rfl)|((with_reducible apply al_id);refine al_cel hp ?_;clear hp;intro bb w hp)|((with_reducible apply st_id);apply sta_hs hp;(focus repeat' constructor);exact rfl;exact rfl;clear hp;intro w hp;(try dsimp only [List.set] at hp)))<;>(conv=>whnf)))
   refine cl_eq (rBytes9_any 16 (by omega) hI2 hq (h.keep hp.chg hB)) rfl rfl ?_
   rintro r w ⟨xg,p3,hsub,hvh,hxl,hxl2,hI3,rfl,hcc⟩
   replace hp:=hp.call0 hcc
   clear hcc
   refine ⟨_,rfl,?_⟩
   ((conv=>whnf);repeat' ((first|((with_reducible apply cn_id);refine cn rfl ?_)|((with_reducible apply ldn_id);apply lda_hs hp;(focus repeat' constructor);exact rfl)|((with_reducible apply al_id);refine al_cel hp ?_;clear hp;intro bb w hp)|((with_reducible apply st_id);apply sta_hs hp;(focus repeat' constructor);exact rfl;exact rfl;clear hp;intro w hp;(try dsimp only [List.set] at hp)))<;>(conv=>whnf)))
   refine cl_eq (rpack_any hI3 hq (h.keep hp.chg hB)) rfl rfl ?_
   rintro r w ⟨xd,p5,hsubd,hvd,hdl,hI5,rfl,hcc⟩
   replace hp:=hp.call0 hcc
   clear hcc
   refine ⟨_,rfl,?_⟩
   have hvb:Rv (rdR hintC.dec (lft (rdR u32C.dec (lft (rdR u32C.dec s1))))) (vecN 16 xg.l):=rv_map hvh
   have hlb:lft (rdR hintC.dec (lft (rdR u32C.dec (lft (rdR u32C.dec s1)))))=lft (rdR (fixC 16).dec (lft (rdR u32C.dec (lft (rdR u32C.dec s1))))):=lft_map
   have hl0:lft (rdR blobC.dec s1)=_:=lft_map.trans (lft_seq.trans (lft_seq.trans lft_seq))
   rw [hlb] at hl0
   have hvj:Rv (rdR blobC.dec s1) (Blob.p ⟨⟨x1,x2⟩,vecN 16 xg.l,xd⟩):=rv_blob v1 v2 hvb (by rw [hlb];exact hvd)
   obtain ⟨s5,hs5⟩:∃s5,lft (rdR (bytC N2).dec (lft (rdR (fixC 16).dec (lft (rdR u32C.dec (lft (rdR u32C.dec s1)))))))=s5:=⟨_,rfl⟩
   rw [hs5] at hl0 hI5 ⊢
   rcases cod_z (s:=s5) with hz2|hz2
   ·have hxl3:xg.l.length=16:=hxl2 (cod_back (D:=(bytC N2).dec) (by rw [hs5];exact hz2))
    ((conv=>whnf);repeat' ((first|((with_reducible apply br_id);(with_reducible refine br_eq (fun hx=>?_) (fun hx=>?_))<;>(try (exfalso;first|omega|contradiction)))|((with_reducible apply cn_id);refine cn rfl ?_)|((with_reducible apply ld_id);apply ld_hs hp;(focus repeat' constructor);exact rfl)|((with_reducible apply ldn_id);apply lda_hs hp;(focus repeat' constructor);exact rfl)|((with_reducible apply al_id);refine al_cel hp ?_;clear hp;intro bb w hp)|((with_reducible apply st_id);apply sta_hs hp;(focus repeat' constructor);exact rfl;exact rfl;clear hp;intro w hp;(try dsimp only [List.set] at hp)))<;>(conv=>whnf)))
    replace hp:=hp.pick (rs':= [_,_,_,_,_,_]) [4,5,6,7,8,3] (by decide) rfl
    obtain ⟨bL,oL,zL,hA, -, -, -⟩:=(hp.row (j:=5) rfl).has (i:=0) (by omega)
    have hk0:L.l[0]? =some x1:=by rw [hL];rfl
    have hk1:L.l[1]? =some x2:=by rw [hL];rfl
    refine dr_cut (fun e w=>∃(b9:Nat) (e0:Nat→Value),e=eat [(2,ptr b2),(3,ptr b3),(4,ptr b4),(5,ptr b5),(6, .int .u64 n),(7, .int .u64 i),(11,xg.v),(14,ptr b9)] ⟨e0, []⟩∧Hp N0 w0 w [rowR 46 19 Blob.c W,cel b2 72 (rc9 q p5 s5),cel b3 31 (Sta.c ⟨xc,xh,xl,xn,xw,xs,W,xj⟩).toArray,cel b4 72 #[.slice none 0 0,i64 0,i64 0],cel b5 31 (Sta.c Sta.z).toArray,cel b9 46 ([u32 x1,u32 x2]++(xg.l.take 0++List.replicate (16 - 0) (0:UInt8)).map u8++ [xd.v]).toArray]) ?_ ?_
    ·refine dr_autos [] 1000 tabOk (by kernel_rfl) (by decide+kernel) ?_
     replace hp:=hp.drew
     ((conv=>whnf);repeat' ((first|((with_reducible apply cn_id);refine cn rfl ?_)|((with_reducible apply ld_id);first|(refine ld_own0 hp 5 rfl hA 0 rfl hk0 rfl ?_)|(refine ld_own0 hp 5 rfl hA 1 rfl hk1 rfl ?_))|((with_reducible apply al_id);refine al_cel hp ?_;clear hp;intro bb w hp)|((with_reducible apply st_id);apply sta_hs hp;(focus repeat' constructor);exact rfl;exact rfl;clear hp;intro w hp;(try dsimp only [List.set] at hp))|((with_reducible apply gen_id);(refine gen_build (t:=46) (out:=(([u32 x1,u32 x2]++(xg.l.take 0++List.replicate (16 - 0) (0:UInt8)).map u8++ [xd.v]))) rfl (by kernel_rfl) ?_))|((with_reducible apply fk_id);refine fk_mk ?_ ?_)|((with_reducible apply rd_id);(refine rd_ixs (sz:=1) (n0:=0) rfl rfl hA rfl (by kernel_rfl) (by omega) ?_)))<;>(conv=>whnf)))
     all_goals exact ⟨bb,_,eat_holds (by (repeat' (first|exact trivial|(refine ⟨rfl,?_⟩)))),hp.pick [1,2,3,4,5,0] (by decide) rfl⟩
    clear hp
    rintro e w ⟨b9,e0,rfl,hp⟩
    ((conv=>whnf))
    refine lp_inv (α:=Nat) (fun m=> [(2,ptr b2),(3,ptr b3),(4,ptr b4),(5,ptr b5),(6, .int .u64 n),(7, .int .u64 i),(11,xg.v),(14,ptr b9),(15,i64 m)]) (fun m w=>m≤16∧Hp N0 w0 w [rowR 46 19 Blob.c W,cel b2 72 (rc9 q p5 s5),cel b3 31 (Sta.c ⟨xc,xh,xl,xn,xw,xs,W,xj⟩).toArray,cel b4 72 #[.slice none 0 0,i64 0,i64 0],cel b5 31 (Sta.c Sta.z).toArray,cel b9 46 ([u32 x1,u32 x2]++(xg.l.take m++List.replicate (16 - m) (0:UInt8)).map u8++ [xd.v]).toArray]) (fun m=>16 - m) 0 (by (repeat' (first|exact trivial|(refine ⟨rfl,?_⟩)))) ⟨by omega,hp⟩ ?_
    clear hp
    rintro m e1 w ⟨hmw,hp⟩
    rcases Nat.lt_or_ge m 16 with hml|hmg
    ·obtain ⟨bA,oA,z,hAz,hbA,hrow,hxx⟩:=(hsub _ _ h).has (i:=m) (by omega)
     have hst:(xg.l.take m++List.replicate (16 - m) (0:UInt8)).set m z=xg.l.take (m+1)++List.replicate (16 - (m+1)) (0:UInt8):=by
      rw [show 16 - m=(16 - (m+1))+1 by omega,app_step (by rw [List.length_take];omega),List.take_add_one,hxx]
      rfl
     have hll:m < (xg.l.take m++List.replicate (16 - m) (0:UInt8)).length:=by rw [List.length_append,List.length_take,List.length_replicate];omega
     ((conv=>whnf);repeat' ((first|((with_reducible apply br_id);(with_reducible refine br_dec (fun hx=>?_) (fun hx=>?_))<;>(try (exfalso;first|omega|contradiction)))|((with_reducible apply ar_id);(refine ar_n (m+1) (by omega) (by omega) ?_))|((with_reducible apply cn_id);refine cn rfl ?_)|((with_reducible apply ld_id);(refine ld_row0 hp hB ‹_› ‹_› _ rfl ‹_› (by rfl) ?_))|((with_reducible apply st_id);(refine st_mid hp 5 rfl m (ad2 _ _) z rfl hll ?_);clear hp;intro w hp;dsimp only [List.set] at hp)|((with_reducible apply gen_id);first|(refine gen_ixs rfl rfl ‹_› rfl rfl (by omega) ?_)|(apply gen_ixa;exact rfl;exact rfl;exact rfl;exact rfl;omega)))<;>(conv=>whnf)))
     rw [hst] at hp
     exact lp_next (m+1) (by show 16 - (m+1) < 16 - m;omega) (by (repeat' (first|exact trivial|(refine ⟨rfl,?_⟩)))) ⟨by show m+1≤16;omega,hp⟩
    obtain rfl:m=16:=by omega
    rw [Nat.sub_self,List.replicate_zero,List.append_nil,List.take_of_length_le (by omega)] at hp
    have hmap:xg.l.map u8=Hint.c (vecN 16 xg.l):=by rw [←Hint.maps,vecN_list hxl3]
    rw [hmap] at hp
    obtain ⟨X,hX⟩:∃X,vecN 16 xg.l=X:=⟨_,rfl⟩
    rw [hX] at hp hvj
    clear hmap hX
    obtain ⟨y,hy⟩:∃y:Blob,y=⟨⟨x1,x2⟩,X,xd⟩:=⟨_,rfl⟩
    replace hp:Hp N0 w0 w [rowR 46 19 Blob.c W,cel b2 72 (rc9 q p5 s5),cel b3 31 (Sta.c ⟨xc,xh,xl,xn,xw,xs,W,xj⟩).toArray,cel b4 72 #[.slice none 0 0,i64 0,i64 0],cel b5 31 (Sta.c Sta.z).toArray,cel b9 46 (Blob.c ⟨⟨x1,x2⟩,X,xd⟩).toArray]:=hp
    have hyd:SubQ q y.data:=by rw [hy];exact hsubd
    rw [←hy] at hp hvj
    have hr2:=hr.next hvj
    rw [hl0] at hr2
    clear hvj hr hy
    ((conv=>whnf);repeat' (((with_reducible apply br_id);(with_reducible refine br_dec (fun hx=>?_) (fun hx=>?_))<;>(try (exfalso;first|omega|contradiction)))<;>(conv=>whnf)))
    refine dr_autos [] 6 tabOk (by kernel_rfl) (by decide+kernel) ?_
    replace hp:=hp.drew
    ((conv=>whnf);repeat' ((first|((with_reducible apply ar_id);(refine ar_un9 (i+1) (by omega) (by omega) ?_))|((with_reducible apply cn_id);first|refine cn rfl ?_|refine cn ‹_› ?_)|((with_reducible apply ld_id);apply ld_hs hp;(focus repeat' constructor);exact rfl)|((with_reducible apply ldn_id);apply lda_hs hp;(focus repeat' constructor);exact rfl)|((with_reducible apply st_id);apply st_hs hp;(focus repeat' constructor);exact rfl;exact rfl;clear hp;intro w hp;(try dsimp only [List.set] at hp))|((with_reducible apply gen_id);first|((refine gen_bs rfl hp el_blob Blob.c [] [] rfl rfl rfl (fun _ hh=>by cases hh) (by omega) ?_);clear hp;intro bq w hp)|((refine gen_bs rfl hp el_blob Blob.c [y] [Blob.v y] rfl rfl rfl (fun _ hh=>by simp at hh;subst hh;rfl) (by omega) ?_);clear hp;intro br w hp)|((refine gen_appe rfl hp 0 rfl el_blob rfl ⟨rfl,rfl,rfl⟩ W rfl (hp.row (j:=1) rfl) (fun _ _=>rfl) blob_one (by omega) (by simp only [maxLen];omega) ?_);clear hp;intro A1 c1 w hcc hp;dsimp only [List.set] at hp)|((refine gen_appe rfl hp 0 rfl el_blob rfl ⟨rfl,rfl,rfl⟩ W rfl (hp.row (j:=2) rfl) (fun _ _=>rfl) blob_one (by omega) (by simp only [maxLen];omega) ?_);clear hp;intro A1 c1 w hcc hp;dsimp only [List.set] at hp)|((refine gen_appe rfl hp 1 rfl el_blob rfl ⟨rfl,rfl,rfl⟩ W rfl (hp.row (j:=2) rfl) (fun _ _=>rfl) blob_one (by omega) (by simp only [maxLen];omega) ?_);clear hp;intro A1 c1 w hcc hp;dsimp only [List.set] at hp)|((refine gen_app (s:=⟨A1,c1,W.l⟩) rfl hp 1 rfl el_blob rfl ⟨some ⟨br,0,none⟩,1, [y]⟩ rfl (hp.row (j:=0) rfl) (fun _ _=>rfl) blob_one (by simp only [List.length_cons,List.length_nil];omega) (by simp only [maxLen,List.length_cons,List.length_nil];omega) ?_);clear hp;intro A2 c2 w hp;dsimp only [List.set] at hp)|((refine gen_app (s:=⟨A1,c1,W.l⟩) rfl hp 0 rfl el_blob rfl ⟨some ⟨br,0,none⟩,1, [y]⟩ rfl (hp.row (j:=1) rfl) (fun _ _=>rfl) blob_one (by simp only [List.length_cons,List.length_nil];omega) (by simp only [maxLen,List.length_cons,List.length_nil];omega) ?_);clear hp;intro A2 c2 w hp;dsimp only [List.set] at hp))|((with_reducible apply fk_id);refine fk_mk ?_ ?_))<;>(conv=>whnf)))
    all_goals refine lp_next (i+1,(⟨A2,c2,W.l++ [y]⟩:Sl Blob),p5,s5) (by show n - (i+1) < n - i;omega) (by (repeat' (first|exact trivial|(refine ⟨rfl,?_⟩)))) ⟨by show i+1≤n;omega,by show (W.l++ [y]).length≤i+1;rw [List.length_append];simp only [List.length_cons,List.length_nil];omega,fun u hu=>by rcases List.mem_append.1 hu with hu|hu;exact hWs u hu;rw [List.mem_singleton.1 hu];exact hyd,by show RpI _ _ _ (n - (i+1)) _ _;rw [hk2,List.map_append];exact hr2,hI5,?_⟩
    all_goals first
     |exact hp.pick [1,3,4,5,6] (by decide) rfl
     |exact hp.pick [0,3,4,5,6] (by decide) rfl
   ·have hr2:=hr.next hvj
    rw [hl0] at hr2
    have hr3:=hr2.bad (acc':=W.l.map Blob.p) hz2
    ((conv=>whnf);repeat' ((first|((with_reducible apply br_id);(with_reducible refine br_eq (fun hx=>?_) (fun hx=>?_))<;>(try (exfalso;first|omega|contradiction)))|((with_reducible apply ar_id);(refine ar_un9 (i+1) (by omega) (by omega) ?_))|((with_reducible apply cn_id);refine cn rfl ?_)|((with_reducible apply ld_id);apply ld_hs hp;(focus repeat' constructor);exact rfl)|((with_reducible apply ldn_id);apply lda_hs hp;(focus repeat' constructor);exact rfl)|((with_reducible apply al_id);refine al_cel hp ?_;clear hp;intro bb w hp)|((with_reducible apply st_id);apply sta_hs hp;(focus repeat' constructor);exact rfl;exact rfl;clear hp;intro w hp;(try dsimp only [List.set] at hp)))<;>(conv=>whnf)))
    exact lp_next (i+1,W,p5,s5) (by show n - (i+1) < n - i;omega) (by (repeat' (first|exact trivial|(refine ⟨rfl,?_⟩)))) ⟨by show i+1≤n;omega,by show W.l.length≤i+1;omega,hWs,by show RpI _ _ _ (n - (i+1)) _ _;rw [hk2];exact hr3,hI5,hp.pick [4,5,6,7,8] (by decide) rfl⟩
  ·((conv=>whnf);repeat' ((first|((with_reducible apply br_id);first|with_reducible refine br_t ?_|((with_reducible refine br_dec (fun hx=>?_) (fun hx=>?_))<;>(try (exfalso;first|omega|contradiction)))|((with_reducible refine br_eq (fun hx=>?_) (fun hx=>?_))<;>(try (exfalso;first|omega|contradiction))))|((with_reducible apply ld_id);apply ld_hs hp;(focus repeat' constructor);exact rfl))<;>(conv=>whnf)))
   refine dr_autoi [0,1] (fun w=>w.heap[b2]? =some (.cells (rc9 q p1 s1) 72)∧w.heap[b3]? =some (.cells (Sta.c ⟨xc,xh,xl,xn,xw,xs,W,xj⟩).toArray 31)) tabOk (by kernel_rfl) (by decide+kernel) rfl ⟨hp.drew.cel_get (j:=1) rfl,hp.drew.cel_get (j:=2) rfl⟩ ?_
   replace hp:=hp.drew
   ((conv=>whnf);repeat' ((first|((with_reducible apply cn_id);first|(refine cn ⟨hp.cel_get (j:=1) rfl,hp.cel_get (j:=2) rfl⟩ ?_)|refine cn rfl ?_)|((with_reducible apply ldn_id);apply lda_hs hp;(focus repeat' constructor);exact rfl)|((with_reducible apply st_id);apply sta_hs hp;(focus repeat' constructor);exact rfl;exact rfl;clear hp;intro w hp;(try dsimp only [List.set] at hp))|((with_reducible apply lni_id);first|((refine lni_of (fun w h=>h.1) rfl ?_))|((refine lni_of (fun w h=>h.2) rfl ?_))))<;>(conv=>whnf)))
   exact ps_val (v':= .tuple #[rv9 q p1 s1,Sta.v ⟨xc,xh,xl,xn,xw,xs,W,xj⟩]) rfl (fin (.inr hz) hp)
 ·((conv=>whnf);repeat' (((with_reducible apply br_id);first|with_reducible refine br_f ?_|((with_reducible refine br_dec (fun hx=>?_) (fun hx=>?_))<;>(try (exfalso;first|omega|contradiction))))<;>(conv=>whnf)))
  refine dr_autoi [0,1] (fun w=>w.heap[b2]? =some (.cells (rc9 q p1 s1) 72)∧w.heap[b3]? =some (.cells (Sta.c ⟨xc,xh,xl,xn,xw,xs,W,xj⟩).toArray 31)) tabOk (by kernel_rfl) (by decide+kernel) rfl ⟨hp.drew.cel_get (j:=1) rfl,hp.drew.cel_get (j:=2) rfl⟩ ?_
  replace hp:=hp.drew
  ((conv=>whnf);repeat' ((first|((with_reducible apply cn_id);first|(refine cn ⟨hp.cel_get (j:=1) rfl,hp.cel_get (j:=2) rfl⟩ ?_)|refine cn rfl ?_)|((with_reducible apply ldn_id);apply lda_hs hp;(focus repeat' constructor);exact rfl)|((with_reducible apply st_id);apply sta_hs hp;(focus repeat' constructor);exact rfl;exact rfl;clear hp;intro w hp;(try dsimp only [List.set] at hp))|((with_reducible apply lni_id);first|((refine lni_of (fun w h=>h.1) rfl ?_))|((refine lni_of (fun w h=>h.2) rfl ?_))))<;>(conv=>whnf)))
  exact ps_val (v':= .tuple #[rv9 q p1 s1,Sta.v ⟨xc,xh,xl,xn,xw,xs,W,xj⟩]) rfl (fin (.inl (by omega)) hp)
end
section
variable {w0 : World} {p B : Nat} {q : Sl UInt8} {s : Rst}
theorem rjobs_any (x:Sta) (hx:x.jobs=Sl.nil) (hI:RdD q.l p s) (hq:q.l.length≤1000000) (h:SlAt B w0 u8L 1 q) (hBw:B≤w0.heap.size):Calls Tryz.prog 32 #[rv9 q p s,x.v] w0 fun r w'=>
  ∃(W:Sl Job) (p':Nat),Rv (rdR (lstC N2 jobC).dec s) (W.l.map Job.p)∧W.l.length < 65536∧RdD q.l p' (lft (rdR (lstC N2 jobC).dec s))∧r= .returned (.tuple #[rv9 q p' (lft (rdR (lstC N2 jobC).dec s)),Sta.v ⟨x.cfg,x.ht,x.halt,x.next,x.win,x.ses,x.blobs,W⟩])∧Made (star (jobRs W)) w0 w':=by
 have hp:=Hp.start (S:=N0) w0
 have hB:∀b,N0 b→B≤b:=fun _ hh=>hh.elim
 obtain ⟨xc,xh,xl,xn,xw,xs,xo,xj⟩:=x
 dsimp only at hx ⊢
 subst hx
 refine calls_x (args:= [_,_]) tabOk Tryz.func32 Tryz.ntmps32 Tryz.results32 rfl (Nat.le_of_ble_eq_true rfl) ?_
 ((conv=>whnf);repeat' ((first|((with_reducible apply ldn_id);apply lda_hs hp;(focus repeat' constructor);exact rfl)|((with_reducible apply al_id);refine al_cel hp ?_;clear hp;intro bb w hp))<;>(conv=>whnf)))
 obtain ⟨b5,hb5⟩:∃b,b=bb:=⟨_,rfl⟩
 subst hb5
 obtain ⟨b4,hb4⟩:∃b,b=bb:=⟨_,rfl⟩
 subst hb4
 obtain ⟨b3,hb3⟩:∃b,b=bb:=⟨_,rfl⟩
 subst hb3
 obtain ⟨b2,hb2⟩:∃b,b=bb:=⟨_,rfl⟩
 subst hb2
 refine cl_eq (rNum9_any 2 N2 (fun _=>rfl) (by omega) hI hq (h.keep hp.chg hB)) rfl rfl ?_
 rintro r w ⟨n,p1,hvn,hn,hI1,rfl,hcc⟩
 replace hp:=hp.call0 hcc
 clear hcc
 refine ⟨_,rfl,?_⟩
 have hn:n < 65536:=hn
 ((conv=>whnf);repeat' ((first|((with_reducible apply cn_id);refine cn rfl ?_)|((with_reducible apply st_id);apply sta_hs hp;(focus repeat' constructor);exact rfl;exact rfl;clear hp;intro w hp;(try dsimp only [List.set] at hp)))<;>(conv=>whnf)))
 have hp0:Hp N0 w0 w [rowR 59 38 Job.c (Sl.nil:Sl Job),star ((Sl.nil:Sl Job).l.map jpayR),cel b2 72 (rc9 q p1 (lft (rdR N2.dec s))),cel b3 31 (Sta.c ⟨xc,xh,xl,xn,xw,xs,xo,(Sl.nil:Sl Job)⟩).toArray,cel b4 72 #[.slice none 0 0,i64 0,i64 0],cel b5 31 (Sta.c Sta.z).toArray]:=((hp.pick [3,2,1,0] (by decide) rfl).nilStarR.nilRow 59 38 Job.c)
 clear hp
 refine lp_inv (α:=Nat×Sl Job×Nat×Rst) (fun a=> [(2,ptr b2),(3,ptr b3),(4,ptr b4),(5,ptr b5),(6, .int .u64 n),(7, .int .u64 a.1)]) (fun a w=>a.1≤n∧a.2.1.l.length≤a.1∧RpI jobC n (lft (rdR N2.dec s)) (n - a.1) a.2.2.2 (a.2.1.l.map Job.p)∧RdD q.l a.2.2.1 a.2.2.2∧Hp N0 w0 w [rowR 59 38 Job.c a.2.1,star (a.2.1.l.map jpayR),cel b2 72 (rc9 q a.2.2.1 a.2.2.2),cel b3 31 (Sta.c ⟨xc,xh,xl,xn,xw,xs,xo,a.2.1⟩).toArray,cel b4 72 #[.slice none 0 0,i64 0,i64 0],cel b5 31 (Sta.c Sta.z).toArray]) (fun a=>n - a.1) (0,Sl.nil,p1,lft (rdR N2.dec s)) (by (repeat' (first|exact trivial|(refine ⟨rfl,?_⟩)))) ⟨Nat.zero_le _,Nat.zero_le _,RpI.start,hI1,hp0⟩ ?_
 clear hp0 hI hI1
 rintro ⟨i,W,p1,s1⟩ e0 w ⟨hi,hWl,hr,hI,hp⟩
 dsimp only at hi hWl hr hI hp ⊢
 have fin:(n - i=0∨cod s1≠0)→∀{w:World} {rs:List Res},Hp N0 w0 w (rowR 59 38 Job.c W::star (W.l.map jpayR)::rs)→∃(W':Sl Job) (p':Nat),Rv (rdR (lstC N2 jobC).dec s) (W'.l.map Job.p)∧W'.l.length < 65536∧RdD q.l p' (lft (rdR (lstC N2 jobC).dec s))∧Ending.returned (.tuple #[rv9 q p1 s1,Sta.v ⟨xc,xh,xl,xn,xw,xs,xo,W⟩])= .returned (.tuple #[rv9 q p' (lft (rdR (lstC N2 jobC).dec s)),Sta.v ⟨xc,xh,xl,xn,xw,xs,xo,W'⟩])∧Made (star (jobRs W')) w0 w:=fun hk w rs hp=>by
  obtain ⟨hl,hv⟩:=hr.stop hk
  have hv:=rv_lst hvn hv
  have hl:=(lft_lst (C:=jobC) hvn).trans hl
  refine ⟨W,p1,hv,by omega,by rw [hl];exact hI,by rw [hl],hp.foldR.made1 (j:=0) rfl⟩
 rcases Nat.lt_or_ge i n with hlt|hge
 ·rcases cod_z (s:=s1) with hz|hz
  ·obtain ⟨k,hk⟩:∃k,n - i=k+1:=⟨n - i - 1,by omega⟩
   rw [hk] at hr
   have hk2:n - (i+1)=k:=by omega
   clear fin
   ((conv=>whnf);repeat' ((first|((with_reducible apply br_id);first|with_reducible refine br_t ?_|((with_reducible refine br_dec (fun hx=>?_) (fun hx=>?_))<;>(try (exfalso;first|omega|contradiction)))|((with_reducible refine br_eq (fun hx=>?_) (fun hx=>?_))<;>(try (exfalso;first|omega|contradiction))))|((with_reducible apply ld_id);apply ld_hs hp;(focus repeat' constructor);exact rfl)|((with_reducible apply ldn_id);apply lda_hs hp;(focus repeat' constructor);exact rfl))<;>(conv=>whnf)))
   refine cl_eq (rpiece_any 2 (by omega) hI hq (h.keep hp.chg hB)) rfl rfl ?_
   rintro r w ⟨L,p2,s2,hLl,hpc,hI2,rfl,hm⟩
   replace hp:=hp.add hm
   clear hm
   refine ⟨_,rfl,?_⟩
   obtain ⟨x1,x2,hL⟩:=len2 hLl
   rw [hL] at hpc
   obtain ⟨v1,v2,rfl⟩:=hpc
   ((conv=>whnf);repeat' ((first|((with_reducible apply cn_id);refine cn rfl ?_)|((with_reducible apply ldn_id);apply lda_hs hp;(focus repeat' constructor);exact rfl)|((with_reducible apply al_id);refine al_cel hp ?_;clear hp;intro bb w hp)|((with_reducible apply st_id);apply sta_hs hp;(focus repeat' constructor);exact rfl;exact rfl;clear hp;intro w hp;(try dsimp only [List.set] at hp)))<;>(conv=>whnf)))
   refine cl_eq (rBytes9_any 32 (by omega) hI2 hq (h.keep hp.chg hB)) rfl rfl ?_
   rintro r w ⟨xg,p3,hsub,hvh,hxl,hxl2,hI3,rfl,hcc⟩
   replace hp:=hp.call0 hcc
   clear hcc
   refine ⟨_,rfl,?_⟩
   ((conv=>whnf);repeat' ((first|((with_reducible apply cn_id);refine cn rfl ?_)|((with_reducible apply ldn_id);apply lda_hs hp;(focus repeat' constructor);exact rfl)|((with_reducible apply al_id);refine al_cel hp ?_;clear hp;intro bb w hp)|((with_reducible apply st_id);apply sta_hs hp;(focus repeat' constructor);exact rfl;exact rfl;clear hp;intro w hp;(try dsimp only [List.set] at hp)))<;>(conv=>whnf)))
   refine cl_eq (rpiece_any 2 (by omega) hI3 hq (h.keep hp.chg hB)) rfl rfl ?_
   rintro r w ⟨M,p4,s4,hMl,hpc,hI4,rfl,hm⟩
   replace hp:=hp.add hm
   clear hm
   refine ⟨_,rfl,?_⟩
   obtain ⟨x3,x4,hM⟩:=len2 hMl
   rw [hM] at hpc
   obtain ⟨v3,v4,rfl⟩:=hpc
   ((conv=>whnf);repeat' ((first|((with_reducible apply cn_id);refine cn rfl ?_)|((with_reducible apply ldn_id);apply lda_hs hp;(focus repeat' constructor);exact rfl)|((with_reducible apply al_id);refine al_cel hp ?_;clear hp;intro bb w hp)|((with_reducible apply st_id);apply sta_hs hp;(focus repeat' constructor);exact rfl;exact rfl;clear hp;intro w hp;(try dsimp only [List.set] at hp)))<;>(conv=>whnf)))
   refine cl_eq (rpack_any hI4 hq (h.keep hp.chg hB)) rfl rfl ?_
   rintro r w ⟨xd,p5,hsubd,hvd,hdl,hI5,rfl,hcc⟩
   replace hp:=hp.call0 hcc
   clear hcc
   refine ⟨_,rfl,?_⟩
   have hvb:Rv (rdR idC.dec (lft (rdR u32C.dec (lft (rdR u32C.dec s1))))) (vecN 32 xg.l):=rv_map hvh
   have hlb:lft (rdR idC.dec (lft (rdR u32C.dec (lft (rdR u32C.dec s1)))))=lft (rdR (fixC 32).dec (lft (rdR u32C.dec (lft (rdR u32C.dec s1))))):=lft_map
   have hlp:=lft_pck (F:=payF) hvd
   have hl0:lft (rdR jobC.dec s1)=_:=lft_map.trans (lft_seq.trans (lft_seq.trans (lft_seq.trans (lft_seq.trans lft_seq))))
   rw [hlb,hlp] at hl0
   have hvj:∀yy,Rv (rdR (pckC N2 payF).dec (lft (rdR u32C.dec (lft (rdR u32C.dec (lft (rdR (fixC 32).dec (lft (rdR u32C.dec (lft (rdR u32C.dec s1))))))))))) yy→Rv (rdR jobC.dec s1) ⟨⟨x1,x2⟩,vecN 32 xg.l,x3,x4, -1,yy⟩:=fun yy hy=>rv_job v1 v2 hvb (by rw [hlb];exact v3) (by rw [hlb];exact v4) (by rw [hlb];exact hy)
   obtain ⟨s5,hs5⟩:∃s5,lft (rdR (bytC N2).dec (lft (rdR u32C.dec (lft (rdR u32C.dec (lft (rdR (fixC 32).dec (lft (rdR u32C.dec (lft (rdR u32C.dec s1)))))))))))=s5:=⟨_,rfl⟩
   rw [hs5] at hl0 hI5 ⊢
   rcases cod_z (s:=s5) with hz2|hz2
   ·have hxl3:xg.l.length=32:=hxl2 (cod_back (cod_back (cod_back (D:=(bytC N2).dec) (by rw [hs5];exact hz2))))
    ((conv=>whnf);repeat' ((first|((with_reducible apply br_id);(with_reducible refine br_eq (fun hx=>?_) (fun hx=>?_))<;>(try (exfalso;first|omega|contradiction)))|((with_reducible apply cn_id);refine cn rfl ?_)|((with_reducible apply ld_id);apply ld_hs hp;(focus repeat' constructor);exact rfl)|((with_reducible apply ldn_id);apply lda_hs hp;(focus repeat' constructor);exact rfl)|((with_reducible apply al_id);refine al_cel hp ?_;clear hp;intro bb w hp)|((with_reducible apply st_id);apply sta_hs hp;(focus repeat' constructor);exact rfl;exact rfl;clear hp;intro w hp;(try dsimp only [List.set] at hp)))<;>(conv=>whnf)))
    replace hp:=hp.pick (rs':= [_,_,_,_,_,_,_,_]) [6,7,8,9,10,11,5,2] (by decide) rfl
    obtain ⟨bL,oL,zL,hA, -, -, -⟩:=(hp.row (j:=6) rfl).has (i:=0) (by omega)
    obtain ⟨bM,oM,zM,hA2, -, -, -⟩:=(hp.row (j:=7) rfl).has (i:=0) (by omega)
    have hk0:L.l[0]? =some x1:=by rw [hL];rfl
    have hk1:L.l[1]? =some x2:=by rw [hL];rfl
    have hm0:M.l[0]? =some x3:=by rw [hM];rfl
    have hm1:M.l[1]? =some x4:=by rw [hM];rfl
    refine dr_cut (fun e w=>∃(b9:Nat) (e0:Nat→Value),e=eat [(2,ptr b2),(3,ptr b3),(4,ptr b4),(5,ptr b5),(6, .int .u64 n),(7, .int .u64 i),(11,xg.v),(15,xd.v),(16,ptr b9)] ⟨e0, []⟩∧Hp N0 w0 w [rowR 59 38 Job.c W,star (W.l.map jpayR),cel b2 72 (rc9 q p5 s5),cel b3 31 (Sta.c ⟨xc,xh,xl,xn,xw,xs,xo,W⟩).toArray,cel b4 72 #[.slice none 0 0,i64 0,i64 0],cel b5 31 (Sta.c Sta.z).toArray,cel b9 59 ([u32 x1,u32 x2]++(xg.l.take 0++List.replicate (32 - 0) (0:UInt8)).map u8++ [u32 x3,u32 x4,i64 (-1),Sl.v (Sl.nil:Payload)]).toArray]) ?_ ?_
    ·refine dr_autos [] 1000 tabOk (by kernel_rfl) (by decide+kernel) ?_
     replace hp:=hp.drew
     ((conv=>whnf);repeat' ((first|((with_reducible apply cn_id);refine cn rfl ?_)|((with_reducible apply ld_id);first|(refine ld_own0 hp 6 rfl hA 0 rfl hk0 rfl ?_)|(refine ld_own0 hp 6 rfl hA 1 rfl hk1 rfl ?_)|(refine ld_own0 hp 7 rfl hA2 0 rfl hm0 rfl ?_)|(refine ld_own0 hp 7 rfl hA2 1 rfl hm1 rfl ?_))|((with_reducible apply al_id);refine al_cel hp ?_;clear hp;intro bb w hp)|((with_reducible apply st_id);apply sta_hs hp;(focus repeat' constructor);exact rfl;exact rfl;clear hp;intro w hp;(try dsimp only [List.set] at hp))|((with_reducible apply gen_id);first|(refine gen_build (t:=59) (out:=(([u32 x1,u32 x2]++(xg.l.take 0++List.replicate (32 - 0) (0:UInt8)).map u8++ [u32 x3,u32 x4,i64 (-1),Sl.v (Sl.nil:Payload)]))) rfl (by kernel_rfl) ?_)|(apply gen_build;exact rfl;exact rfl))|((with_reducible apply fk_id);refine fk_mk ?_ ?_)|((with_reducible apply rd_id);first|(refine rd_ixs (sz:=1) (n0:=0) rfl rfl hA rfl (by kernel_rfl) (by omega) ?_)|(refine rd_ixs (sz:=1) (n0:=0) rfl rfl hA2 rfl (by kernel_rfl) (by omega) ?_)))<;>(conv=>whnf)))
     all_goals exact ⟨bb,_,eat_holds (by (repeat' (first|exact trivial|(refine ⟨rfl,?_⟩)))),hp.pick [1,2,3,4,5,6,0] (by decide) rfl⟩
    clear hp
    rintro e w ⟨b9,e0,rfl,hp⟩
    ((conv=>whnf))
    refine lp_inv (α:=Nat) (fun m=> [(2,ptr b2),(3,ptr b3),(4,ptr b4),(5,ptr b5),(6, .int .u64 n),(7, .int .u64 i),(11,xg.v),(15,xd.v),(16,ptr b9),(17,i64 m)]) (fun m w=>m≤32∧Hp N0 w0 w [rowR 59 38 Job.c W,star (W.l.map jpayR),cel b2 72 (rc9 q p5 s5),cel b3 31 (Sta.c ⟨xc,xh,xl,xn,xw,xs,xo,W⟩).toArray,cel b4 72 #[.slice none 0 0,i64 0,i64 0],cel b5 31 (Sta.c Sta.z).toArray,cel b9 59 ([u32 x1,u32 x2]++(xg.l.take m++List.replicate (32 - m) (0:UInt8)).map u8++ [u32 x3,u32 x4,i64 (-1),Sl.v (Sl.nil:Payload)]).toArray]) (fun m=>32 - m) 0 (by (repeat' (first|exact trivial|(refine ⟨rfl,?_⟩)))) ⟨by omega,hp⟩ ?_
    clear hp
    rintro m e1 w ⟨hmw,hp⟩
    rcases Nat.lt_or_ge m 32 with hml|hmg
    ·obtain ⟨bA,oA,z,hAz,hbA,hrow,hxx⟩:=(hsub _ _ h).has (i:=m) (by omega)
     have hst:(xg.l.take m++List.replicate (32 - m) (0:UInt8)).set m z=xg.l.take (m+1)++List.replicate (32 - (m+1)) (0:UInt8):=by
      rw [show 32 - m=(32 - (m+1))+1 by omega,app_step (by rw [List.length_take];omega),List.take_add_one,hxx]
      rfl
     have hll:m < (xg.l.take m++List.replicate (32 - m) (0:UInt8)).length:=by rw [List.length_append,List.length_take,List.length_replicate];omega
     ((conv=>whnf);repeat' ((first|((with_reducible apply br_id);(with_reducible refine br_dec (fun hx=>?_) (fun hx=>?_))<;>(try (exfalso;first|omega|contradiction)))|((with_reducible apply ar_id);(refine ar_n (m+1) (by omega) (by omega) ?_))|((with_reducible apply cn_id);refine cn rfl ?_)|((with_reducible apply ld_id);(refine ld_row0 hp hB ‹_› ‹_› _ rfl ‹_› (by rfl) ?_))|((with_reducible apply st_id);(refine st_mid hp 6 rfl m (ad2 _ _) z rfl hll ?_);clear hp;intro w hp;dsimp only [List.set] at hp)|((with_reducible apply gen_id);first|(refine gen_ixs rfl rfl ‹_› rfl rfl (by omega) ?_)|(apply gen_ixa;exact rfl;exact rfl;exact rfl;exact rfl;omega)))<;>(conv=>whnf)))
     rw [hst] at hp
     exact lp_next (m+1) (by show 32 - (m+1) < 32 - m;omega) (by (repeat' (first|exact trivial|(refine ⟨rfl,?_⟩)))) ⟨by show m+1≤32;omega,hp⟩
    obtain rfl:m=32:=by omega
    rw [Nat.sub_self,List.replicate_zero,List.append_nil,List.take_of_length_le (by omega)] at hp
    have hmap:xg.l.map u8=Id.c (vecN 32 xg.l):=by rw [←idc_maps,vecN_list hxl3]
    rw [hmap] at hp
    obtain ⟨X,hX⟩:∃X,vecN 32 xg.l=X:=⟨_,rfl⟩
    rw [hX] at hp hvj
    clear hmap hX
    ((conv=>whnf);repeat' (((with_reducible apply br_id);(with_reducible refine br_dec (fun hx=>?_) (fun hx=>?_))<;>(try (exfalso;first|omega|contradiction)))<;>(conv=>whnf)))
    refine cl_eq (rdecode_any (hsubd _ _ (h.keep hp.chg hB)) (Nat.le_trans hBw hp.chg.size) (by omega)) rfl rfl ?_
    rintro r w ⟨yp,hyp,rfl,hm⟩
    replace hp:=hp.add hm
    clear hm
    refine ⟨_,rfl,?_⟩
    have hc:=dec_cod xd.l
    have hd:payF.dec xd.l=if (dec xd.l).2=0 then .ok (dec xd.l).1 else .error (dec xd.l).2:=rfl
    rw [←hyp] at hd
    obtain ⟨c,hc2⟩:∃c,(dec xd.l).2=c:=⟨_,rfl⟩
    rw [hc2] at hc hd ⊢
    rw [hd,cod_if] at hl0
    have hvj:=hvj _ (rv_pck hvd fun a ha=>by
     rw [hd] at ha
     split at ha
     ·cases ha
      rfl
     ·cases ha)
    have hF:=fun {w:World}=>rFail9_any (w0:=w) c hI5
    have hI6:=RdD.fld hI5 hc
    rw [←hl0] at hF hI6
    obtain ⟨y,hy⟩:∃y:Job,y=⟨⟨x1,x2⟩,X,x3,x4, -1,yp⟩:=⟨_,rfl⟩
    have hr2:=hr.next hvj
    rw [show (⟨⟨x1,x2⟩,X,x3,x4, -1,yp.l.map tk⟩:JobP)=y.p by rw [hy];rfl] at hr2
    clear hd hyp hc2 hvj hlp hr
    ((conv=>whnf);repeat' ((first|((with_reducible apply cn_id);refine cn rfl ?_)|((with_reducible apply ldn_id);apply lda_hs hp;(focus repeat' constructor);exact rfl)|((with_reducible apply al_id);refine al_cel hp ?_;clear hp;intro bb w hp)|((with_reducible apply st_id);first|(apply sta_hs hp;(focus repeat' constructor);exact rfl;exact rfl;clear hp;intro w hp;(try dsimp only [List.set] at hp))|(apply st_hs hp;(focus repeat' constructor);exact rfl;exact rfl;clear hp;intro w hp;(try dsimp only [List.set] at hp)))|((with_reducible apply cl_id);(refine cl_eq (hF) rfl rfl ?_;rintro e w ⟨rfl,hcc⟩;replace hp:=hp.call0 hcc;refine ⟨_,rfl,?_⟩)))<;>(conv=>whnf)))
    replace hp:=hp.pick (rs':= [jpayR ⟨⟨x1,x2⟩,X,x3,x4, -1,yp⟩,star (W.l.map jpayR),_,_,_,_,_,cel b9 59 (Job.c ⟨⟨x1,x2⟩,X,x3,x4, -1,yp⟩).toArray]) [1,3,2,4,5,6,7,8] (by decide) rfl
    rw [←hy] at hp
    replace hp:=hp.snocR.perm (.swap ..)
    rw [show W.l.map jpayR++ [jpayR y]=(W.l++ [y]).map jpayR by rw [List.map_append];rfl] at hp
    refine dr_autos [] 6 tabOk (by kernel_rfl) (by decide+kernel) ?_
    replace hp:=hp.drew
    ((conv=>whnf);repeat' ((first|((with_reducible apply ar_id);(refine ar_un9 (i+1) (by omega) (by omega) ?_))|((with_reducible apply cn_id);first|refine cn rfl ?_|refine cn ‹_› ?_)|((with_reducible apply ld_id);apply ld_hs hp;(focus repeat' constructor);exact rfl)|((with_reducible apply ldn_id);apply lda_hs hp;(focus repeat' constructor);exact rfl)|((with_reducible apply st_id);apply st_hs hp;(focus repeat' constructor);exact rfl;exact rfl;clear hp;intro w hp;(try dsimp only [List.set] at hp))|((with_reducible apply gen_id);first|((refine gen_bs rfl hp el_job Job.c [] [] rfl rfl rfl (fun _ hh=>by cases hh) (by omega) ?_);clear hp;intro bq w hp)|((refine gen_bs rfl hp el_job Job.c [y] [Job.v y] rfl rfl rfl (fun _ hh=>by simp at hh;subst hh;rfl) (by omega) ?_);clear hp;intro br w hp)|((refine gen_appe rfl hp 0 rfl el_job rfl ⟨rfl,rfl,rfl⟩ W rfl (hp.row (j:=1) rfl) (fun _ _=>rfl) job_one (by omega) (by simp only [maxLen];omega) ?_);clear hp;intro A1 c1 w hcc hp;dsimp only [List.set] at hp)|((refine gen_appe rfl hp 0 rfl el_job rfl ⟨rfl,rfl,rfl⟩ W rfl (hp.row (j:=2) rfl) (fun _ _=>rfl) job_one (by omega) (by simp only [maxLen];omega) ?_);clear hp;intro A1 c1 w hcc hp;dsimp only [List.set] at hp)|((refine gen_appe rfl hp 1 rfl el_job rfl ⟨rfl,rfl,rfl⟩ W rfl (hp.row (j:=2) rfl) (fun _ _=>rfl) job_one (by omega) (by simp only [maxLen];omega) ?_);clear hp;intro A1 c1 w hcc hp;dsimp only [List.set] at hp)|((refine gen_app (s:=⟨A1,c1,W.l⟩) rfl hp 1 rfl el_job rfl ⟨some ⟨br,0,none⟩,1, [y]⟩ rfl (hp.row (j:=0) rfl) (fun _ _=>rfl) job_one (by simp only [List.length_cons,List.length_nil];omega) (by simp only [maxLen,List.length_cons,List.length_nil];omega) ?_);clear hp;intro A2 c2 w hp;dsimp only [List.set] at hp)|((refine gen_app (s:=⟨A1,c1,W.l⟩) rfl hp 0 rfl el_job rfl ⟨some ⟨br,0,none⟩,1, [y]⟩ rfl (hp.row (j:=1) rfl) (fun _ _=>rfl) job_one (by simp only [List.length_cons,List.length_nil];omega) (by simp only [maxLen,List.length_cons,List.length_nil];omega) ?_);clear hp;intro A2 c2 w hp;dsimp only [List.set] at hp))|((with_reducible apply fk_id);refine fk_mk ?_ ?_))<;>(conv=>whnf)))
    all_goals refine lp_next (i+1,(⟨A2,c2,W.l++ [y]⟩:Sl Job),p5,(lft (rdR jobC.dec s1))) (by show n - (i+1) < n - i;omega) (by (repeat' (first|exact trivial|(refine ⟨rfl,?_⟩)))) ⟨by show i+1≤n;omega,by show (W.l++ [y]).length≤i+1;rw [List.length_append];simp only [List.length_cons,List.length_nil];omega,by show RpI _ _ _ (n - (i+1)) _ _;rw [hk2,List.map_append];exact hr2,hI6,?_⟩
    all_goals first
     |exact hp.pick [1,3,4,5,6,7] (by decide) rfl
     |exact hp.pick [0,3,4,5,6,7] (by decide) rfl
   ·have hr2:=hr.next (hvj [] (rv_pckbad (by rw [hs5];exact hz2)))
    rw [hl0,fld_bad hz2] at hr2
    have hr3:=hr2.bad (acc':=W.l.map Job.p) hz2
    ((conv=>whnf);repeat' ((first|((with_reducible apply br_id);(with_reducible refine br_eq (fun hx=>?_) (fun hx=>?_))<;>(try (exfalso;first|omega|contradiction)))|((with_reducible apply ar_id);(refine ar_un9 (i+1) (by omega) (by omega) ?_))|((with_reducible apply cn_id);refine cn rfl ?_)|((with_reducible apply ld_id);apply ld_hs hp;(focus repeat' constructor);exact rfl)|((with_reducible apply ldn_id);apply lda_hs hp;(focus repeat' constructor);exact rfl)|((with_reducible apply al_id);refine al_cel hp ?_;clear hp;intro bb w hp)|((with_reducible apply st_id);apply sta_hs hp;(focus repeat' constructor);exact rfl;exact rfl;clear hp;intro w hp;(try dsimp only [List.set] at hp)))<;>(conv=>whnf)))
    exact lp_next (i+1,W,p5,s5) (by show n - (i+1) < n - i;omega) (by (repeat' (first|exact trivial|(refine ⟨rfl,?_⟩)))) ⟨by show i+1≤n;omega,by show W.l.length≤i+1;omega,by show RpI _ _ _ (n - (i+1)) _ _;rw [hk2];exact hr3,hI5,hp.pick [6,7,8,9,10,11] (by decide) rfl⟩
  ·((conv=>whnf);repeat' ((first|((with_reducible apply br_id);first|with_reducible refine br_t ?_|((with_reducible refine br_dec (fun hx=>?_) (fun hx=>?_))<;>(try (exfalso;first|omega|contradiction)))|((with_reducible refine br_eq (fun hx=>?_) (fun hx=>?_))<;>(try (exfalso;first|omega|contradiction))))|((with_reducible apply ld_id);apply ld_hs hp;(focus repeat' constructor);exact rfl))<;>(conv=>whnf)))
   refine dr_autoi [0,1] (fun w=>w.heap[b2]? =some (.cells (rc9 q p1 s1) 72)∧w.heap[b3]? =some (.cells (Sta.c ⟨xc,xh,xl,xn,xw,xs,xo,W⟩).toArray 31)) tabOk (by kernel_rfl) (by decide+kernel) rfl ⟨hp.drew.cel_get (j:=2) rfl,hp.drew.cel_get (j:=3) rfl⟩ ?_
   replace hp:=hp.drew
   ((conv=>whnf);repeat' ((first|((with_reducible apply cn_id);first|(refine cn ⟨hp.cel_get (j:=2) rfl,hp.cel_get (j:=3) rfl⟩ ?_)|refine cn rfl ?_)|((with_reducible apply ldn_id);apply lda_hs hp;(focus repeat' constructor);exact rfl)|((with_reducible apply st_id);apply sta_hs hp;(focus repeat' constructor);exact rfl;exact rfl;clear hp;intro w hp;(try dsimp only [List.set] at hp))|((with_reducible apply lni_id);first|((refine lni_of (fun w h=>h.1) rfl ?_))|((refine lni_of (fun w h=>h.2) rfl ?_))))<;>(conv=>whnf)))
   exact ps_val (v':= .tuple #[rv9 q p1 s1,Sta.v ⟨xc,xh,xl,xn,xw,xs,xo,W⟩]) rfl (fin (.inr hz) hp)
 ·((conv=>whnf);repeat' (((with_reducible apply br_id);first|with_reducible refine br_f ?_|((with_reducible refine br_dec (fun hx=>?_) (fun hx=>?_))<;>(try (exfalso;first|omega|contradiction))))<;>(conv=>whnf)))
  refine dr_autoi [0,1] (fun w=>w.heap[b2]? =some (.cells (rc9 q p1 s1) 72)∧w.heap[b3]? =some (.cells (Sta.c ⟨xc,xh,xl,xn,xw,xs,xo,W⟩).toArray 31)) tabOk (by kernel_rfl) (by decide+kernel) rfl ⟨hp.drew.cel_get (j:=2) rfl,hp.drew.cel_get (j:=3) rfl⟩ ?_
  replace hp:=hp.drew
  ((conv=>whnf);repeat' ((first|((with_reducible apply cn_id);first|(refine cn ⟨hp.cel_get (j:=2) rfl,hp.cel_get (j:=3) rfl⟩ ?_)|refine cn rfl ?_)|((with_reducible apply ldn_id);apply lda_hs hp;(focus repeat' constructor);exact rfl)|((with_reducible apply st_id);apply sta_hs hp;(focus repeat' constructor);exact rfl;exact rfl;clear hp;intro w hp;(try dsimp only [List.set] at hp))|((with_reducible apply lni_id);first|((refine lni_of (fun w h=>h.1) rfl ?_))|((refine lni_of (fun w h=>h.2) rfl ?_))))<;>(conv=>whnf)))
  exact ps_val (v':= .tuple #[rv9 q p1 s1,Sta.v ⟨xc,xh,xl,xn,xw,xs,xo,W⟩]) rfl (fin (.inl (by omega)) hp)
end
set_option maxHeartbeats 2000000
theorem key_ne {x k:Key} (h:¬x=k):¬((x.ses.toNat:Int)=k.ses.toNat∧(x.seq.toNat:Int)=k.seq.toNat):=fun ⟨h1,h2⟩=>h (by
 obtain ⟨a,b⟩:=x
 obtain ⟨e,f⟩:=k
 have h3:a=e:=UInt32.toNat_inj.1 (Int.ofNat.inj h1)
 have h4:b=f:=UInt32.toNat_inj.1 (Int.ofNat.inj h2)
 rw [h3,h4])
end Go.Proofs.YtpbapnlnheahnaaGreatDoor
