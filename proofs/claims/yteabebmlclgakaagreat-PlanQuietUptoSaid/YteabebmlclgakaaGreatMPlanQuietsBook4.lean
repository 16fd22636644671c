/- Book4: package book: a book of a state. Of states that are few. -/
import Derived.Test.YteabebmlclgakaaGreatMPlanQuiet27
set_option linter.unusedSimpArgs false
set_option linter.unusedVariables false
namespace Go.Proofs.YteabebmlclgakaaGreat
open Go.RowKit
set_option maxRecDepth 100000
set_option maxHeartbeats 4000000
theorem Mut.hd {w w':World} {r r':Res} {T:List Res} (m:Mut r (star (r'::T)) w w'):Mut r r' w w':=
 ⟨m.chg,(star_ok.1 m.ok).1 _ (List.mem_cons_self ..),fun b hb=>m.dom b (star_dom.2 ⟨_,List.mem_cons_self ..,hb⟩)⟩
abbrev lodRs (bk:Nat) (X:Bk) (C:Chn) (Y:Snx) (ms:Nat) (room:Int) (tl:List (UInt32×Sess)) (g:Shf) (mj:Nat) (ord:Sl Key) (l:List (Key×EntB)):List Res:=
 [bkR bk X,star (chlRs X.bc C),star (snRs X.bn Y),tabR X.bs ms room tl,star (shRs X.bh g),star (jtRs X.bj mj ord l)]
theorem chlAt {w:World} {b:Nat} {C:Chn} (h:(star (chlRs b C)).ok w) (h1:1≤C.depth∧C.depth≤16) (h2:(C.win.l.length:Int)≤C.depth+1) (h3:C.win.l.length≤C.ht.toNat) (h4:∀c∈C.win.l,c.tx.l.Nodup∧c.tx.l.length≤32):ChAt w b C:=by
 have hp:=Hp.open h
 have hp2:=(hp.perm (.swap ..)).unfold
 exact ⟨hp.cel_get (j:=0) rfl,⟨hp2.row (j:=0) rfl,fun c hc=>rowR_at (e:=44) (hp2.ok (btxR c) (List.mem_append_left _ (List.mem_cons_of_mem _ (List.mem_map_of_mem hc))))⟩,h1,h2,h3,h4⟩
theorem winAt_right {l:List Blk} {i:Nat} {y:Blk} (h:winAt l i=true) (hy:l[i]? =some y):rightB y=true:=by
 unfold winAt at h
 rw [hy] at h
 exact (Bool.and_eq_true_iff.1 h).1
theorem rightB_nd {y:Blk} (h:rightB y=true):y.tx.l.Nodup∧y.tx.l.length≤32:=by
 unfold rightB at h
 simp only [Bool.and_eq_true,decide_eq_true_eq] at h
 exact ⟨h.2,h.1.1⟩
theorem shI_z (hb hm mb mm am:Nat):ShI ⟨hb,hm, [],0,mb,mm, [],0,am, [],0,0⟩ []:=
 ⟨by simp,fun h=>rfl,fun s=>rfl,fun k=>rfl,rfl,rfl,rfl,rfl,by simp,by simp,by simp,⟨fun _=>0,fun _ _ h=>by simp [mlk] at h, .nil,fun _ h=>by cases h⟩⟩
theorem jtI_z:JtI [] []:=⟨rfl,List.nodup_nil,fun _ h=>(by cases h),fun _ h=>(by cases h),fun _ h=>(by cases h)⟩
structure LodI (x:Sta) (X:Bk) (W:Sl Blk) (Y:Snx) (g:Shf) (ord:Sl Key) (l:List (Key×EntB)):Prop where
 cfg:X.cfg=x.cfg
 halt:X.halt=x.halt
 next:X.next=x.next
 win:W.l.map Blk.p=x.win.l.map Blk.p
 sn:SnI Y (x.win.l.map fun c=>c.tx.l) (32*x.win.l.length)
 low:x.win.l≠ []→Y.low=UInt32.ofNat (Chn.low ⟨x.cfg.dep,x.ht,W⟩)
 sh:ShI g (x.blobs.l.map Blob.p)
 jt:JtI ord.l l
 jobs:l.map (fun p=>p.2.job.p)=x.jobs.l.map Job.p
theorem bload_any {B:Nat} {w0:World} {x:Sta} (hs:StaAt B w0 x) (hBw:B≤w0.heap.size) (hf:FewI x) (hlv:∀j∈x.jobs.l, -9223372036854775808≤j.live∧j.live≤9223372036854775807):Calls Tryz.prog 16 #[x.v] w0 fun e w'=>
  (rightS x=false∧e= .returned (.tuple #[.pointer none,i64 1])∧Chg N0 w0 w')∨(rightS x=true∧∃bk X W Y ms g mj ord l,LodI x X W Y g ord l∧e= .returned (.tuple #[ptr bk,i64 0])∧Made (star (lodRs bk X ⟨x.cfg.dep,x.ht,W⟩ Y ms x.cfg.ses (tblOf x.ses.l) g mj ord l)) w0 w'):=by
 have hp:=Hp.start (S:=N0) w0
 have hB:∀b,N0 b→B≤b:=fun _ hh=>hh.elim
 have u4:=Tryz.underlying26
 have f3:=hf.win
 have hso:=fun w=>sound_any w x.cfg
 have hha:=fun w=>halts_any w x.halt
 cases hq1:soundC x.cfg with
 |false=>
  rw [hq1] at hso
  refine calls_x (args:= [_]) tabOk Tryz.func16 Tryz.ntmps16 Tryz.results16 rfl (Nat.le_of_ble_eq_true rfl) ?_
  ((conv=>whnf);repeat' ((first|((with_reducible refine br_id ?_);first|(with_reducible refine br_t ?_)|(with_reducible refine br_f ?_)|(with_reducible refine br_not ?_))|((with_reducible refine ldn_id ?_);(apply ldn_hs hp;(focus repeat' constructor);exact rfl;exact rfl))|((with_reducible refine al_id ?_);(refine al_cel hp ?_;clear hp;intro bb w hp))|((with_reducible refine cl_id ?_);((refine cl_eq ((hso _)) rfl rfl ?_;rintro e w ⟨rfl,hcc⟩;replace hp:=hp.call0 hcc;refine ⟨_,rfl,?_⟩))))<;>(conv=>whnf)))
  exact ps_val (v':= .tuple #[.pointer none,i64 1]) rfl (.inl ⟨by unfold rightS;rw [hq1];rfl,rfl,hp.chg⟩)
 |true=>
 rw [hq1] at hso
 cases hq2:haltE x.halt with
 |false=>
  rw [hq2] at hha
  refine calls_x (args:= [_]) tabOk Tryz.func16 Tryz.ntmps16 Tryz.results16 rfl (Nat.le_of_ble_eq_true rfl) ?_
  ((conv=>whnf);repeat' ((first|((with_reducible refine br_id ?_);first|(with_reducible refine br_t ?_)|(with_reducible refine br_f ?_)|(with_reducible refine br_not ?_))|((with_reducible refine ld_id ?_);(apply ld_hs hp;(focus repeat' constructor);exact rfl))|((with_reducible refine ldn_id ?_);(apply ldn_hs hp;(focus repeat' constructor);exact rfl;exact rfl))|((with_reducible refine al_id ?_);(refine al_cel hp ?_;clear hp;intro bb w hp))|((with_reducible refine cl_id ?_);first|((refine cl_eq ((hso _)) rfl rfl ?_;rintro e w ⟨rfl,hcc⟩;replace hp:=hp.call0 hcc;refine ⟨_,rfl,?_⟩))|((refine cl_eq ((hha _)) rfl rfl ?_;rintro e w ⟨rfl,hcc⟩;replace hp:=hp.call0 hcc;refine ⟨_,rfl,?_⟩))))<;>(conv=>whnf)))
  exact ps_val (v':= .tuple #[.pointer none,i64 1]) rfl (.inl ⟨by unfold rightS;rw [hq1,hq2];rfl,rfl,hp.chg⟩)
 |true=>
 rw [hq2] at hha
 have hrt:rightS x=(chS x.cfg.dep x.ht x.win.l && (sesS x.next x.cfg.ses x.ses.l && (blobS x.ses.l (x.blobs.l.map Blob.p) && jobS x.ht x.jobs.l))):=by unfold rightS;rw [hq1,hq2];rfl
 refine calls_x (args:= [_]) tabOk Tryz.func16 Tryz.ntmps16 Tryz.results16 rfl (Nat.le_of_ble_eq_true rfl) ?_
 ((conv=>whnf);repeat' ((first|((with_reducible refine br_id ?_);first|(with_reducible refine br_t ?_)|(with_reducible refine br_f ?_)|(with_reducible refine br_not ?_))|((with_reducible refine ld_id ?_);(apply ld_hs hp;(focus repeat' constructor);exact rfl))|((with_reducible refine ldn_id ?_);(apply ldn_hs hp;(focus repeat' constructor);exact rfl;exact rfl))|((with_reducible refine al_id ?_);(refine al_cel hp ?_;clear hp;intro bb w hp))|((with_reducible refine cl_id ?_);first|((refine cl_eq ((hso _)) rfl rfl ?_;rintro e w ⟨rfl,hcc⟩;replace hp:=hp.call0 hcc;refine ⟨_,rfl,?_⟩))|((refine cl_eq ((hha _)) rfl rfl ?_;rintro e w ⟨rfl,hcc⟩;replace hp:=hp.call0 hcc;refine ⟨_,rfl,?_⟩))))<;>(conv=>whnf)))
 obtain ⟨b1,hb1⟩:∃b,b=bb:=⟨_,rfl⟩
 subst hb1
 have hs1:=hs.keep hp.chg hB
 refine cl_eq (chload_any x.cfg.dep x.ht hs1.win hs1.tx) rfl rfl ?_
 clear hs1
 rintro e w (⟨hch,rfl,hcc⟩|⟨hch,bc,W,hW,rfl,hm⟩)
 ·replace hp:=hp.call0 hcc
  refine ⟨_,rfl,?_⟩
  ((conv=>whnf);repeat' (((with_reducible refine br_id ?_);((with_reducible refine br_ne (fun hx=>?_) (fun hx=>?_))<;>(try (exfalso;first|omega|contradiction))))<;>(conv=>whnf)))
  exact ps_val (v':= .tuple #[.pointer none,i64 1]) rfl (.inl ⟨by rw [hrt,hch];rfl,rfl,hp.chg⟩)
 replace hp:=hp.add hm
 clear hm
 refine ⟨_,rfl,?_⟩
 rw [hch,Bool.true_and] at hrt
 ((conv=>whnf);repeat' ((first|((with_reducible refine br_id ?_);((with_reducible refine br_ne (fun hx=>?_) (fun hx=>?_))<;>(try (exfalso;first|omega|contradiction))))|((with_reducible refine cn_id ?_);(refine cn ‹_› ?_))|((with_reducible refine ld_id ?_);(apply ld_hs hp;(focus repeat' constructor);exact rfl))|((with_reducible refine ldn_id ?_);(apply ldn_hs hp;(focus repeat' constructor);exact rfl;exact rfl))|((with_reducible refine al_id ?_);(refine al_cel hp ?_;clear hp;intro bb w hp))|((with_reducible refine gen_id ?_);first|((refine gen_build (t:=121) (out:=(Bk.c ⟨x.cfg,x.halt,x.next,bc,bn,bs,bh,bj⟩)) rfl (by kernel_rfl) ?_))|(apply gen_len;exact rfl;exact rfl;assumption))|((with_reducible refine dr_id ?_);(refine dr_autog tabOk (by kernel_rfl) (by decide+kernel) ?_;(try replace hp:=hp.drew)))|((with_reducible refine cl_id ?_);first|((refine cl_eq (snew_any _) rfl rfl ?_;rintro e w ⟨bn,Y0,hy1,hy2,hy3,hy4,hy5,rfl,hm⟩;replace hp:=hp.add hm;replace hm:=hm.chg;refine ⟨_,rfl,?_⟩))|((refine cl_eq (sesnew_any _ _) rfl rfl ?_;rintro e w ⟨bs,ms,rfl,hm⟩;replace hp:=hp.add hm;replace hm:=hm.chg;refine ⟨_,rfl,?_⟩))|((refine cl_eq shnew_any rfl rfl ?_;rintro e w ⟨bh,h1,h2,h3,h4,h5,rfl,hm⟩;replace hp:=hp.add hm;replace hm:=hm.chg;refine ⟨_,rfl,?_⟩))|((refine cl_eq (jnew_any _) rfl rfl ?_;rintro e w ⟨bj,mj,rfl,hm⟩;replace hp:=hp.add hm;replace hm:=hm.chg;refine ⟨_,rfl,?_⟩))))<;>(conv=>whnf)))
 obtain ⟨bk,hbk⟩:∃b,b=bb:=⟨_,rfl⟩
 subst hbk
 obtain ⟨X,hX⟩:∃X:Bk,X=⟨x.cfg,x.halt,x.next,bc,bn,bs,bh,bj⟩:=⟨_,rfl⟩
 have hX0:X.cfg=x.cfg∧X.halt=x.halt∧X.next=x.next∧X.bc=bc∧X.bn=bn∧X.bs=bs∧X.bh=bh∧X.bj=bj:=by rw [hX];exact ⟨rfl,rfl,rfl,rfl,rfl,rfl,rfl,rfl⟩
 obtain ⟨x1,x2,x3,rfl,rfl,rfl,rfl,rfl⟩:=hX0
 rw [←hX] at hp
 clear hX
 obtain ⟨g0,hg0⟩:∃g0,g0=(⟨h1,h2, [],0,h3,h4, [],0,h5, [],0,0⟩:Shf):=⟨_,rfl⟩
 have hI0:ShI g0 []:=hg0▸shI_z h1 h2 h3 h4 h5
 have hn0:g0.next=0:=by rw [hg0]
 rw [←hg0] at hp
 clear hg0
 have hsd:1≤x.cfg.dep∧x.cfg.dep≤16:=by
  unfold soundC at hq1
  rw [decide_eq_true_eq] at hq1
  exact hq1.1
 have hsq:1≤x.cfg.ses:=by
  unfold soundC at hq1
  rw [decide_eq_true_eq] at hq1
  exact hq1.2.2.2.1.1
 rw [show max x.cfg.ses 0=x.cfg.ses by omega] at hp
 replace hp:=hp.pick (rs':= [bkR bk X,star (snRs X.bn Y0),tabR X.bs ms x.cfg.ses [],star (shRs X.bh g0),star (jtRs X.bj mj Sl.nil []),star (chlRs X.bc ⟨x.cfg.dep,x.ht,W⟩),cel b1 31 x.c.toArray]) [0,4,3,2,1,5,6] (by decide) rfl
 have hWl:W.l.length=x.win.l.length:=by have:=congrArg List.length hW;rwa [List.length_map,List.length_map] at this
 have hch2:=hch
 unfold chS at hch2
 rw [Bool.and_eq_true,decide_eq_true_eq] at hch2
 obtain ⟨⟨_,_,hl1,hl2⟩,hall⟩:=hch2
 have hwin:∀k,k < x.win.l.length→winAt x.win.l k=true:=fun k hk=>allR_at hall hk
 have hnd:∀c∈W.l,c.tx.l.Nodup∧c.tx.l.length≤32:=fun c hc=>by
  have h1:c.p∈x.win.l.map Blk.p:=hW▸List.mem_map_of_mem hc
  obtain ⟨c',hc',he⟩:=List.mem_map.1 h1
  have h3:c'.tx.l=c.tx.l:=congrArg BlkP.txs he
  rw [←h3]
  obtain ⟨k,hk⟩:=List.getElem?_of_mem hc'
  exact rightB_nd (winAt_right (hwin k (List.getElem?_eq_some_iff.1 hk).1) hk)
 have hca:∀{w:World},(star (chlRs X.bc ⟨x.cfg.dep,x.ht,W⟩)).ok w→ChAt w X.bc ⟨x.cfg.dep,x.ht,W⟩:=fun hh=>chlAt hh hsd (by show (W.l.length:Int)≤_;rw [hWl];exact hl1) (by show W.l.length≤_;rw [hWl];exact hl2) hnd
 have hI1:SnI Y0 [] 0:=⟨by rw [hy1];rfl,by have:=Y0.low.toNat_lt;simp;omega,by simp,fun x=>by rw [hy2];rfl,fun k=>by rw [hy4];exact .nil,fun k y=>by rw [hy4];simp [idx,Sl.nil],by rw [hy3];omega,by rw [hy5];omega⟩
 clear hy1 hy2 hy3 hy4 hy5
 obtain ⟨lw,hlw⟩:∃n:Nat,Chn.low ⟨x.cfg.dep,x.ht,W⟩=n:=⟨_,rfl⟩
 have hlw2:lw=x.ht.toNat+1 - x.win.l.length:=by rw [←hlw,←hWl];rfl
 have hht:=x.ht.toNat_lt
 refine lp_inv (α:=Nat×Snx) (fun a=> [(1,ptr b1),(4,ptr X.bc),(6,ptr bk),(49,x.win.v),(50,i64 x.win.l.length),(51,i64 a.1)]) (fun a w=>a.1≤x.win.l.length∧SnI a.2 ((x.win.l.take a.1).map fun c=>c.tx.l) (32*a.1)∧(a.1≠0→a.2.low=UInt32.ofNat lw)∧Hp N0 w0 w [bkR bk X,star (snRs X.bn a.2),tabR X.bs ms x.cfg.ses [],star (shRs X.bh g0),star (jtRs X.bj mj Sl.nil []),star (chlRs X.bc ⟨x.cfg.dep,x.ht,W⟩),cel b1 31 x.c.toArray]) (fun a=>x.win.l.length - a.1) (0,Y0) (by (repeat' (first|exact trivial|(refine ⟨rfl,?_⟩)))) ⟨by omega,hI1,fun hh=>(hh rfl).elim,hp⟩ ?_
 clear hp hI1
 rintro ⟨i,Y⟩ e0 w ⟨hi,hI,hlow,hp⟩
 dsimp only at hi hI hlow hp ⊢
 rcases Nat.lt_or_ge i x.win.l.length with hlt|hge
 ·obtain ⟨b,o,y,hA,hbb,hrow,hyy⟩:=hs.win.has hlt
  have hmem:=List.mem_of_getElem? hyy
  have hya:=hs.tx y hmem
  have hR:=winAt_right (hwin i hlt) hyy
  have hWne:W.l≠ []:=fun hh=>by rw [hh] at hWl;simp at hWl;omega
  have hclo:∀{w:World},(star (chlRs X.bc ⟨x.cfg.dep,x.ht,W⟩)).ok w→Calls Tryz.prog 67 #[ptr X.bc] w fun e w'=>e= .returned (u32 (UInt32.ofNat lw))∧Chg N0 w w':=fun hh=>by
   have:=clow_any (hca hh)
   rw [if_neg hWne,hlw] at this
   exact this
  have hk1:(UInt32.ofNat lw).toNat=lw:=UInt32.toNat_ofNat_of_lt' (by show _ < 4294967296;omega)
  have hk2:(UInt32.ofNat (lw+i)).toNat=lw+i:=UInt32.toNat_ofNat_of_lt' (by show _ < 4294967296;omega)
  have ar_sum:∀{f:Int→Prop},f ((UInt32.ofNat (lw+i)).toNat:Int)→Ar .u32 (((UInt32.ofNat lw).toNat:Int)+(i:Int)) f:=fun {f} hh=>by
   refine ar_u32 (by omega) ?_
   rw [hk1,show (lw:Int)+(i:Int)=((lw+i:Nat):Int) by omega,←hk2]
   exact hh
  ((conv=>whnf);repeat' ((first|((with_reducible refine br_id ?_);((with_reducible refine br_dec (fun hx=>?_) (fun hx=>?_))<;>(try (exfalso;first|omega|contradiction))))|((with_reducible refine ar_id ?_);first|((refine ar_sum ?_))|(refine ar_u32 (by omega) ?_))|((with_reducible refine cn_id ?_);first|(refine cn rfl ?_)|(refine cn ‹_› ?_))|((with_reducible refine ld_id ?_);(apply ld_hs hp;(focus repeat' constructor);exact rfl))|((with_reducible refine ldn_id ?_);first|((refine ldn_rowx hp hB ‹_› ‹_› _ rfl ‹_› rfl ?_))|(apply lda_hs hp;(focus repeat' constructor);exact rfl))|((with_reducible refine al_id ?_);(refine al_cel hp ?_;clear hp;intro bb w hp))|((with_reducible refine st_id ?_);(apply sta_hs hp;(focus repeat' constructor);exact rfl;exact rfl;clear hp;intro w hp;(try dsimp only [List.set] at hp)))|((with_reducible refine gen_id ?_);((refine gen_ixs rfl rfl ‹_› rfl rfl (by omega) ?_)))|((with_reducible refine dr_id ?_);((refine dr_autos [] 10 tabOk (by kernel_rfl) (by decide+kernel) ?_);replace hp:=hp.drew))|((with_reducible refine cl_id ?_);((refine cl_eq ((hclo (hp.get (j:=6) rfl))) rfl rfl ?_;rintro e w ⟨rfl,hcc⟩;replace hp:=hp.call0 hcc;refine ⟨_,rfl,?_⟩)))|((with_reducible refine rd_id ?_);((refine rd_conv tabOk rfl rfl rfl rfl ?_))))<;>(conv=>whnf)))
  have hBk:∀k,(star (snRs X.bn Y)).dom k→B≤k:=fun k hk=>by
   have h2:=hp.own (star (snRs X.bn Y)) (by simp) k hk
   rcases h2 with h2|h2
   ·exact h2.elim
   ·omega
  have hLl:((x.win.l.take i).map fun c:Blk=>c.tx.l).length=i:=by rw [List.length_map,List.length_take];omega
  have hE:pushE Y.low ((x.win.l.take i).map fun c:Blk=>c.tx.l).length (UInt32.ofNat (lw+i)) true=0:=by
   unfold pushE
   rw [hLl,if_neg (by simp)]
   by_cases h0:i=0
   ·rw [if_pos h0]
   ·rw [if_neg h0,if_pos (by rw [hlow h0,hk1,hk2];omega)]
  have hL1:pushL Y.low ((x.win.l.take i).map fun c:Blk=>c.tx.l) (UInt32.ofNat (lw+i)) y.tx.l true=(x.win.l.take (i+1)).map fun c:Blk=>c.tx.l:=by
   unfold pushL
   rw [if_pos hE,List.take_add_one,hyy,List.map_append]
   rfl
  have hW1:pushW Y.low ((x.win.l.take i).map fun c:Blk=>c.tx.l).length (UInt32.ofNat (lw+i)) true=UInt32.ofNat lw:=by
   unfold pushW
   rw [hLl]
   by_cases h0:i=0
   ·rw [if_pos ⟨rfl,h0⟩,h0,Nat.add_zero]
   ·rw [if_neg (fun hh=>h0 hh.2),hlow h0]
  have hpu:=spushI_any (hp.get (j:=2) rfl) hI (by omega) (by rw [hLl];omega) (ht:=UInt32.ofNat (lw+i)) (B:=y) (out_lt (hya.keep hp.chg hB) hBk)
  rw [hR,hE,hL1,hW1] at hpu
  refine cl_eq hpu rfl rfl ?_
  clear hpu
  rintro e w ⟨rfl,Y',T',hI',hlow',_,hm⟩
  replace hp:=hp.via (j:=2) rfl hm.hd
  replace hm:=hm.chg
  dsimp only [List.set] at hp
  refine ⟨_,rfl,?_⟩
  ((conv=>whnf);repeat' (((with_reducible refine ar_id ?_);(refine ar_i64 (by omega) ?_))<;>(conv=>whnf)))
  exact lp_next (i+1,Y') (by show x.win.l.length - (i+1) < x.win.l.length - i;omega) (by (repeat' (first|exact trivial|(refine ⟨rfl,?_⟩)))) ⟨by show i+1≤_;omega,hI'.more (by show _≤32*(i+1);omega),fun _=>hlow',hp.tail⟩
 rw [List.take_of_length_le hge] at hI
 have hnz:x.win.l≠ []→Y.low=UInt32.ofNat lw:=fun hh=>hlow (by have:=List.length_pos_iff.2 hh;omega)
 replace hI:=hI.more (K':=32*x.win.l.length) (by omega)
 clear hlow hca hwin hnd
 replace hp:=(hp.pick (rs':= [bkR bk X,tabR X.bs ms x.cfg.ses [],star (shRs X.bh g0),star (snRs X.bn Y),star (jtRs X.bj mj Sl.nil []),star (chlRs X.bc ⟨x.cfg.dep,x.ht,W⟩),cel b1 31 x.c.toArray]) [0,2,3,1,4,5,6] (by decide) rfl).fold 3
 have hdom:∀{w:World} {r:Res} {rs:List Res},Hp N0 w0 w (r::rs)→∀k,r.dom k→B≤k:=fun {w r rs} hp k hk=>by
  have h2:=hp.own r (List.mem_cons_self ..) k hk
  rcases h2 with h2|h2
  ·exact h2.elim
  ·omega
 have hp0:Hp N0 w0 w [star (cliRs bk X ms x.cfg.ses [] g0),star (snRs X.bn Y),star (jtRs X.bj mj Sl.nil []),star (chlRs X.bc ⟨x.cfg.dep,x.ht,W⟩),cel b1 31 x.c.toArray]:=hp
 clear hp
 have hp:=hp0
 clear hp0
 ((conv=>whnf);repeat' ((first|((with_reducible refine br_id ?_);((with_reducible refine br_dec (fun hx=>?_) (fun hx=>?_))<;>(try (exfalso;first|omega|contradiction))))|((with_reducible refine ldn_id ?_);(apply lda_hs hp;(focus repeat' constructor);exact rfl)))<;>(conv=>whnf)))
 refine cl_eq (clients_any (hp.get (j:=0) rfl) (hs.keep hp.chg hB) (hdom hp) (Nat.le_trans hBw hp.chg.size) hf (by omega) hI0 (by omega)) rfl rfl ?_
 rintro e w ⟨q,tl,g,hq,rfl,hyes,hm⟩
 replace hp:=hp.via (j:=0) rfl hm
 clear hm
 dsimp only [List.set] at hp
 refine ⟨_,rfl,?_⟩
 rw [←Bool.and_assoc,←hq] at hrt
 clear hq
 cases q with
 |false=>
  ((conv=>whnf);repeat' (((with_reducible refine br_id ?_);first|(with_reducible refine br_t ?_)|(with_reducible refine br_f ?_)|(with_reducible refine br_not ?_))<;>(conv=>whnf)))
  exact ps_val (v':= .tuple #[.pointer none,i64 1]) rfl (.inl ⟨hrt,rfl,hp.chg⟩)
 |true=>
 obtain ⟨rfl,hg⟩:=hyes rfl
 rw [Bool.true_and] at hrt
 have hp1:Hp N0 w0 w [star (breRs bk X mj Sl.nil []),tabR X.bs ms x.cfg.ses (tblOf x.ses.l),star (shRs X.bh g),star (snRs X.bn Y),star (chlRs X.bc ⟨x.cfg.dep,x.ht,W⟩),cel b1 31 x.c.toArray]:=
  (hp.unfold.pick (rs':= [bkR bk X,star (jtRs X.bj mj Sl.nil []),tabR X.bs ms x.cfg.ses (tblOf x.ses.l),star (shRs X.bh g),star (snRs X.bn Y),star (chlRs X.bc ⟨x.cfg.dep,x.ht,W⟩),cel b1 31 x.c.toArray]) [0,4,1,2,3,5,6] (by decide) rfl).fold 2
 clear hp
 have hp:=hp1
 clear hp1
 ((conv=>whnf);repeat' ((first|((with_reducible refine br_id ?_);first|(with_reducible refine br_t ?_)|(with_reducible refine br_f ?_)|(with_reducible refine br_not ?_))|((with_reducible refine ldn_id ?_);(apply lda_hs hp;(focus repeat' constructor);exact rfl)))<;>(conv=>whnf)))
 refine cl_eq (breaches_any (hp.get (j:=0) rfl) (hs.keep hp.chg hB) (hdom hp) (Nat.le_trans hBw hp.chg.size) hf hlv jtI_z) rfl rfl ?_
 rintro e w ⟨q,ord,l,hq,rfl,hyes,hm⟩
 replace hp:=hp.via (j:=0) rfl hm
 clear hm
 dsimp only [List.set] at hp
 refine ⟨_,rfl,?_⟩
 rw [←hq] at hrt
 clear hq
 cases q with
 |false=>
  ((conv=>whnf);repeat' (((with_reducible refine br_id ?_);first|(with_reducible refine br_f ?_)|(with_reducible refine br_not ?_))<;>(conv=>whnf)))
  exact ps_val (v':= .tuple #[.pointer none,i64 1]) rfl (.inl ⟨hrt,rfl,hp.chg⟩)
 |true=>
 obtain ⟨hjt,hjl⟩:=hyes rfl
 ((conv=>whnf);repeat' (((with_reducible refine br_id ?_);first|(with_reducible refine br_t ?_)|(with_reducible refine br_f ?_)|(with_reducible refine br_not ?_))<;>(conv=>whnf)))
 refine ps_val (v':= .tuple #[ptr bk,i64 0]) rfl (.inr ⟨hrt,bk,X,W,Y,ms,g,mj,ord,l,⟨x1,x2,x3,hW,hI,fun hh=>by rw [hnz hh,hlw],hg,hjt,hjl⟩,rfl,?_⟩)
 exact ((hp.unfold.pick (rs':=lodRs bk X ⟨x.cfg.dep,x.ht,W⟩ Y ms x.cfg.ses (tblOf x.ses.l) g mj ord l) [0,5,4,2,3,1] (by decide) rfl).made (.refl _))
theorem bright_any {B:Nat} {w0:World} {x:Sta} (hs:StaAt B w0 x) (hBw:B≤w0.heap.size) (hf:FewI x) (hlv:∀j∈x.jobs.l, -9223372036854775808≤j.live∧j.live≤9223372036854775807):Calls Tryz.prog 35 #[x.v] w0 fun e w'=>e= .returned (.bool (rightS x))∧Chg N0 w0 w':=by
 have hp:=Hp.start (S:=N0) w0
 have hB:∀b,N0 b→B≤b:=fun _ hh=>hh.elim
 refine calls_x (args:= [_]) tabOk Tryz.func35 Tryz.ntmps35 Tryz.results35 rfl (Nat.le_of_ble_eq_true rfl) ?_
 ((conv=>whnf);repeat' ((first|((with_reducible refine ldn_id ?_);(apply lda_hs hp;(focus repeat' constructor);exact rfl))|((with_reducible refine al_id ?_);(refine al_cel hp ?_;clear hp;intro bb w hp)))<;>(conv=>whnf)))
 refine cl_eq (bload_any (hs.keep hp.chg hB) (Nat.le_trans hBw hp.chg.size) hf hlv) rfl rfl ?_
 rintro e w (⟨hq,rfl,hm⟩|⟨hq,bk,X,W,Y,ms,g,mj,ord,l,_,rfl,hm⟩)
 ·replace hp:=hp.call0 hm
  refine ⟨_,rfl,?_⟩
  ((conv=>whnf);repeat' ((first|((with_reducible refine br_id ?_);first|(with_reducible refine br_t ?_)|(with_reducible refine br_f ?_)|(with_reducible refine br_not ?_)|((with_reducible refine br_dec (fun hx=>?_) (fun hx=>?_))<;>(try (exfalso;first|omega|contradiction)))|((with_reducible refine br_eq (fun hx=>?_) (fun hx=>?_))<;>(try (exfalso;first|omega|contradiction)))|((with_reducible refine br_ne (fun hx=>?_) (fun hx=>?_))<;>(try (exfalso;first|omega|contradiction)))|((with_reducible refine br_s (fun hx=>?_) (fun hx=>?_))<;>(try (exfalso;first|omega|contradiction))))|((with_reducible refine ar_id ?_);first|(refine ar_i64 (by omega) ?_)|(refine ar_u32 (by omega) ?_)|(refine ar_u64 (by omega) ?_)|(refine ar_u8 (by omega) ?_))|((with_reducible refine cn_id ?_);first|(refine cn rfl ?_)|(refine cn ‹_› ?_)|(refine cn (by omega) ?_)|(refine cn (Chg.refl _ _) ?_))|((with_reducible refine ld_id ?_);first|(apply ld_hs hp;(focus repeat' constructor);exact rfl)|(refine ld_of ‹_› ?_))|((with_reducible refine ldn_id ?_);first|(apply lda_hs hp;(focus repeat' constructor);exact rfl)|(apply ldn_hs hp;(focus repeat' constructor);exact rfl;exact rfl))|((with_reducible refine al_id ?_);(refine al_cel hp ?_;clear hp;intro bb w hp))|((with_reducible refine st_id ?_);first|(apply sta_hs hp;(focus repeat' constructor);exact rfl;exact rfl;clear hp;intro w hp;(try dsimp only [List.set] at hp))|(apply st_hs hp;(focus repeat' constructor);exact rfl;exact rfl;clear hp;intro w hp;(try dsimp only [List.set] at hp)))|((with_reducible refine gen_id ?_);first|(apply gen_build;exact rfl;exact rfl)|(apply gen_len;exact rfl;exact rfl;assumption)|(apply gen_min;exact rfl;exact rfl;exact rfl)|(apply gen_max;exact rfl;exact rfl;exact rfl)|(apply gen_ix;exact rfl;exact rfl;exact rfl;exact rfl;omega)|(apply gen_ixa;exact rfl;exact rfl;exact rfl;exact rfl;omega))|((with_reducible refine dr_id ?_);first|(refine dr_auto tabOk (by kernel_rfl) (by decide+kernel) ?_;(try replace hp:=hp.drew))|(refine dr_autog tabOk (by kernel_rfl) (by decide+kernel) ?_;(try replace hp:=hp.drew))|(refine dr_autot tabOk (by kernel_rfl) (by decide+kernel) ?_;(try replace hp:=hp.drew)))|((with_reducible refine fk_id ?_);(refine fk_mk ?_ ?_))|((with_reducible refine rd_id ?_);first|(apply rd_len;exact rfl;exact rfl;assumption)|(apply rd_ix;exact rfl;exact rfl;exact rfl;exact rfl;omega)))<;>(conv=>whnf)))
  exact ps_val (v':= .bool false) rfl ⟨by rw [hq],hp.chg⟩
 ·replace hp:=hp.add hm
  refine ⟨_,rfl,?_⟩
  ((conv=>whnf);repeat' ((first|((with_reducible refine br_id ?_);first|(with_reducible refine br_t ?_)|(with_reducible refine br_f ?_)|(with_reducible refine br_not ?_)|((with_reducible refine br_dec (fun hx=>?_) (fun hx=>?_))<;>(try (exfalso;first|omega|contradiction)))|((with_reducible refine br_eq (fun hx=>?_) (fun hx=>?_))<;>(try (exfalso;first|omega|contradiction)))|((with_reducible refine br_ne (fun hx=>?_) (fun hx=>?_))<;>(try (exfalso;first|omega|contradiction)))|((with_reducible refine br_s (fun hx=>?_) (fun hx=>?_))<;>(try (exfalso;first|omega|contradiction))))|((with_reducible refine ar_id ?_);first|(refine ar_i64 (by omega) ?_)|(refine ar_u32 (by omega) ?_)|(refine ar_u64 (by omega) ?_)|(refine ar_u8 (by omega) ?_))|((with_reducible refine cn_id ?_);first|(refine cn rfl ?_)|(refine cn ‹_› ?_)|(refine cn (by omega) ?_)|(refine cn (Chg.refl _ _) ?_))|((with_reducible refine ld_id ?_);first|(apply ld_hs hp;(focus repeat' constructor);exact rfl)|(refine ld_of ‹_› ?_))|((with_reducible refine ldn_id ?_);first|(apply lda_hs hp;(focus repeat' constructor);exact rfl)|(apply ldn_hs hp;(focus repeat' constructor);exact rfl;exact rfl))|((with_reducible refine al_id ?_);(refine al_cel hp ?_;clear hp;intro bb w hp))|((with_reducible refine st_id ?_);first|(apply sta_hs hp;(focus repeat' constructor);exact rfl;exact rfl;clear hp;intro w hp;(try dsimp only [List.set] at hp))|(apply st_hs hp;(focus repeat' constructor);exact rfl;exact rfl;clear hp;intro w hp;(try dsimp only [List.set] at hp)))|((with_reducible refine gen_id ?_);first|(apply gen_build;exact rfl;exact rfl)|(apply gen_len;exact rfl;exact rfl;assumption)|(apply gen_min;exact rfl;exact rfl;exact rfl)|(apply gen_max;exact rfl;exact rfl;exact rfl)|(apply gen_ix;exact rfl;exact rfl;exact rfl;exact rfl;omega)|(apply gen_ixa;exact rfl;exact rfl;exact rfl;exact rfl;omega))|((with_reducible refine dr_id ?_);first|(refine dr_auto tabOk (by kernel_rfl) (by decide+kernel) ?_;(try replace hp:=hp.drew))|(refine dr_autog tabOk (by kernel_rfl) (by decide+kernel) ?_;(try replace hp:=hp.drew))|(refine dr_autot tabOk (by kernel_rfl) (by decide+kernel) ?_;(try replace hp:=hp.drew)))|((with_reducible refine fk_id ?_);(refine fk_mk ?_ ?_))|((with_reducible refine rd_id ?_);first|(apply rd_len;exact rfl;exact rfl;assumption)|(apply rd_ix;exact rfl;exact rfl;exact rfl;exact rfl;omega)))<;>(conv=>whnf)))
  exact ps_val (v':= .bool true) rfl ⟨by rw [hq],hp.chg⟩
end Go.Proofs.YteabebmlclgakaaGreat
