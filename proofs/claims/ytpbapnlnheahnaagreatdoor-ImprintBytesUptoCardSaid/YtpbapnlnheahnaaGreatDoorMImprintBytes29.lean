/- MImprintBytes29: parts of the proof of ImprintBytes: Book4, Imp1, Writer3, Writer4, Imp3. No condition of their own. -/
import Derived.Test.YtpbapnlnheahnaaGreatDoorMImprintBytes28
import Derived.Test.YtpbapnlnheahnaaGreatDoorMImprintBytes13
import Derived.Test.YtpbapnlnheahnaaGreatDoorMImprintBytes7
import Derived.Test.YtpbapnlnheahnaaGreatDoorMImprintBytes14
import Derived.Test.YtpbapnlnheahnaaGreatDoorMImprintBytes19
set_option linter.unusedSimpArgs false
set_option linter.unusedVariables false
namespace Go.Proofs.YtpbapnlnheahnaaGreatDoor
open Go.RowKit
set_option maxRecDepth 100000
set_option maxHeartbeats 4000000
theorem Mut.hd {w w':World} {r r':Res} {T:List Res} (m:Mut r (star (r'::T)) w w'):Mut r r' w w':=
 ⟨m.chg,(star_ok.1 m.ok).1 _ (List.mem_cons_self ..),fun b hb=>m.dom b (star_dom.2 ⟨_,List.mem_cons_self ..,hb⟩)⟩
abbrev lodRs (bk:Nat) (X:Bk) (C:Chn) (Y:Snx) (ms:Nat) (room:Int) (tl:List (UInt32×Sess)) (g:Shf) (mj:Nat) (ord:Sl Key) (l:List (Key×EntB)):List Res:=
 [bkR bk X,star (chlRs X.bc C),star (snRs X.bn Y),tabR X.bs ms room tl,star (shRs X.bh g),star (jtRs X.bj mj ord l)]
theorem chlAt {w:World} {b:Nat} {C:Chn} (h:(star (chlRs b C)).ok w) (h1:1≤C.depth∧C.depth≤16) (h2:(C.win.l.length:Int)≤C.depth+1) (h3:C.win.l.length≤C.ht.toNat) (h4:∀c∈C.win.l,c.tx.l.Nodup∧c.tx.l.length≤32):ChAt w b C:=by
 have hp:=Hp.open h
 have hp2:=(hp.perm (.swap ..)).unfold
 exact ⟨hp.cel_get (j:=0) rfl,⟨hp2.row (j:=0) rfl,fun c hc=>rowR_at (e:=48) (hp2.ok (btxR c) (List.mem_append_left _ (List.mem_cons_of_mem _ (List.mem_map_of_mem hc))))⟩,h1,h2,h3,h4⟩
theorem winAt_right {l:List Blk} {i:Nat} {y:Blk} (h:winAt l i=true) (hy:l[i]? =some y):rightB y=true:=by
 unfold winAt at h
 rw [hy] at h
 exact (Bool.and_eq_true_iff.1 h).1
theorem rightB_nd {y:Blk} (h:rightB y=true):y.tx.l.Nodup∧y.tx.l.length≤32:=by
 unfold rightB at h
 simp only [Bool.and_eq_true,decide_eq_true_eq] at h
 exact ⟨h.2,h.1.1⟩
theorem shI_z (hb hm mb mm am:Nat):ShI ⟨hb,hm, [],0,mb,mm, [],0,am, [],0,0⟩ []:=
 ⟨by simp,fun h=>rfl,fun s=>rfl,fun k=>rfl,rfl,rfl,rfl,rfl,by simp,by simp,by simp,⟨fun _=>0,fun _ _ h=>by simp [mlk] at h, .nil,fun _ h=>by cases h⟩⟩
theorem jtI_z:JtI [] []:=⟨rfl,List.nodup_nil,fun _ h=>(by cases h),fun _ h=>(by cases h),fun _ h=>(by cases h)⟩
structure LodI (x:Sta) (X:Bk) (W:Sl Blk) (Y:Snx) (g:Shf) (ord:Sl Key) (l:List (Key×EntB)):Prop where
 cfg:X.cfg=x.cfg
 halt:X.halt=x.halt
 next:X.next=x.next
 win:W.l.map Blk.p=x.win.l.map Blk.p
 sn:SnI Y (x.win.l.map fun c=>c.tx.l) (32*x.win.l.length)
 low:x.win.l≠ []→Y.low=UInt32.ofNat (Chn.low ⟨x.cfg.dep,x.ht,W⟩)
 sh:ShI g (x.blobs.l.map Blob.p)
 jt:JtI ord.l l
 jobs:l.map (fun p=>p.2.job.p)=x.jobs.l.map Job.p
theorem bload_any {B:Nat} {w0:World} {x:Sta} (hs:StaAt B w0 x) (hBw:B≤w0.heap.size) (hf:FewI x) (hlv:∀j∈x.jobs.l, -9223372036854775808≤j.live∧j.live≤9223372036854775807):Calls Tryz.prog 40 #[x.v] w0 fun e w'=>
  (rightS x=false∧e= .returned (.tuple #[.pointer none,i64 1])∧Chg N0 w0 w')∨(rightS x=true∧∃bk X W Y ms g mj ord l,LodI x X W Y g ord l∧e= .returned (.tuple #[ptr bk,i64 0])∧Made (star (lodRs bk X ⟨x.cfg.dep,x.ht,W⟩ Y ms x.cfg.ses (tblOf x.ses.l) g mj ord l)) w0 w'):=by
 have hp:=Hp.start (S:=N0) w0
 have hB:∀b,N0 b→B≤b:=fun _ hh=>hh.elim
 have u4:=Tryz.underlying26
 have f3:=hf.win
 have hso:=fun w=>sound_any w x.cfg
 have hha:=fun w=>halts_any w x.halt
 cases hq1:soundC x.cfg with
 |false=>
  rw [hq1] at hso
  refine calls_x (args:= [_]) tabOk Tryz.func40 Tryz.ntmps40 Tryz.results40 rfl (Nat.le_of_ble_eq_true rfl) ?_
  ((conv=>whnf);repeat' ((first|((with_reducible apply br_id);first|with_reducible refine br_t ?_|with_reducible refine br_f ?_|with_reducible refine br_not ?_)|((with_reducible apply ldn_id);apply ldn_hs hp;(focus repeat' constructor);exact rfl;exact rfl)|((with_reducible apply al_id);refine al_cel hp ?_;clear hp;intro bb w hp)|((with_reducible apply cl_id);(refine cl_eq ((hso _)) rfl rfl ?_;rintro e w ⟨rfl,hcc⟩;replace hp:=hp.call0 hcc;refine ⟨_,rfl,?_⟩)))<;>(conv=>whnf)))
  exact ps_val (v':= .tuple #[.pointer none,i64 1]) rfl (.inl ⟨by unfold rightS;rw [hq1];rfl,rfl,hp.chg⟩)
 |true=>
 rw [hq1] at hso
 cases hq2:haltE x.halt with
 |false=>
  rw [hq2] at hha
  refine calls_x (args:= [_]) tabOk Tryz.func40 Tryz.ntmps40 Tryz.results40 rfl (Nat.le_of_ble_eq_true rfl) ?_
  ((conv=>whnf);repeat' ((first|((with_reducible apply br_id);first|with_reducible refine br_t ?_|with_reducible refine br_f ?_|with_reducible refine br_not ?_)|((with_reducible apply ld_id);apply ld_hs hp;(focus repeat' constructor);exact rfl)|((with_reducible apply ldn_id);apply ldn_hs hp;(focus repeat' constructor);exact rfl;exact rfl)|((with_reducible apply al_id);refine al_cel hp ?_;clear hp;intro bb w hp)|((with_reducible apply cl_id);first|((refine cl_eq ((hso _)) rfl rfl ?_;rintro e w ⟨rfl,hcc⟩;replace hp:=hp.call0 hcc;refine ⟨_,rfl,?_⟩))|((refine cl_eq ((hha _)) rfl rfl ?_;rintro e w ⟨rfl,hcc⟩;replace hp:=hp.call0 hcc;refine ⟨_,rfl,?_⟩))))<;>(conv=>whnf)))
  exact ps_val (v':= .tuple #[.pointer none,i64 1]) rfl (.inl ⟨by unfold rightS;rw [hq1,hq2];rfl,rfl,hp.chg⟩)
 |true=>
 rw [hq2] at hha
 have hrt:rightS x=(chS x.cfg.dep x.ht x.win.l && (sesS x.next x.cfg.ses x.ses.l && (blobS x.ses.l (x.blobs.l.map Blob.p) && jobS x.ht x.jobs.l))):=by unfold rightS;rw [hq1,hq2];rfl
 refine calls_x (args:= [_]) tabOk Tryz.func40 Tryz.ntmps40 Tryz.results40 rfl (Nat.le_of_ble_eq_true rfl) ?_
 ((conv=>whnf);repeat' ((first|((with_reducible apply br_id);first|with_reducible refine br_t ?_|with_reducible refine br_f ?_|with_reducible refine br_not ?_)|((with_reducible apply ld_id);apply ld_hs hp;(focus repeat' constructor);exact rfl)|((with_reducible apply ldn_id);apply ldn_hs hp;(focus repeat' constructor);exact rfl;exact rfl)|((with_reducible apply al_id);refine al_cel hp ?_;clear hp;intro bb w hp)|((with_reducible apply cl_id);first|((refine cl_eq ((hso _)) rfl rfl ?_;rintro e w ⟨rfl,hcc⟩;replace hp:=hp.call0 hcc;refine ⟨_,rfl,?_⟩))|((refine cl_eq ((hha _)) rfl rfl ?_;rintro e w ⟨rfl,hcc⟩;replace hp:=hp.call0 hcc;refine ⟨_,rfl,?_⟩))))<;>(conv=>whnf)))
 obtain ⟨b1,hb1⟩:∃b,b=bb:=⟨_,rfl⟩
 subst hb1
 have hs1:=hs.keep hp.chg hB
 refine cl_eq (chload_any x.cfg.dep x.ht hs1.win hs1.tx) rfl rfl ?_
 clear hs1
 rintro e w (⟨hch,rfl,hcc⟩|⟨hch,bc,W,hW,rfl,hm⟩)
 ·replace hp:=hp.call0 hcc
  refine ⟨_,rfl,?_⟩
  ((conv=>whnf);repeat' (((with_reducible apply br_id);(with_reducible refine br_ne (fun hx=>?_) (fun hx=>?_))<;>(try (exfalso;first|omega|contradiction)))<;>(conv=>whnf)))
  exact ps_val (v':= .tuple #[.pointer none,i64 1]) rfl (.inl ⟨by rw [hrt,hch];rfl,rfl,hp.chg⟩)
 replace hp:=hp.add hm
 clear hm
 refine ⟨_,rfl,?_⟩
 rw [hch,Bool.true_and] at hrt
 ((conv=>whnf);repeat' ((first|((with_reducible apply br_id);(with_reducible refine br_ne (fun hx=>?_) (fun hx=>?_))<;>(try (exfalso;first|omega|contradiction)))|((with_reducible apply cn_id);refine cn ‹_› ?_)|((with_reducible apply ld_id);apply ld_hs hp;(focus repeat' constructor);exact rfl)|((with_reducible apply ldn_id);apply ldn_hs hp;(focus repeat' constructor);exact rfl;exact rfl)|((with_reducible apply al_id);refine al_cel hp ?_;clear hp;intro bb w hp)|((with_reducible apply gen_id);first|(refine gen_build (t:=171) (out:=(Bk.c ⟨x.cfg,x.halt,x.next,bc,bn,bs,bh,bj⟩)) rfl (by kernel_rfl) ?_)|(apply gen_len;exact rfl;exact rfl;assumption))|((with_reducible apply dr_id);refine dr_autog tabOk (by kernel_rfl) (by decide+kernel) ?_;(try replace hp:=hp.drew))|((with_reducible apply cl_id);first|((refine cl_eq (snew_any _) rfl rfl ?_;rintro e w ⟨bn,Y0,hy1,hy2,hy3,hy4,hy5,rfl,hm⟩;replace hp:=hp.add hm;replace hm:=hm.chg;refine ⟨_,rfl,?_⟩))|((refine cl_eq (sesnew_any _ _) rfl rfl ?_;rintro e w ⟨bs,ms,rfl,hm⟩;replace hp:=hp.add hm;replace hm:=hm.chg;refine ⟨_,rfl,?_⟩))|((refine cl_eq shnew_any rfl rfl ?_;rintro e w ⟨bh,h1,h2,h3,h4,h5,rfl,hm⟩;replace hp:=hp.add hm;replace hm:=hm.chg;refine ⟨_,rfl,?_⟩))|((refine cl_eq (jnew_any _) rfl rfl ?_;rintro e w ⟨bj,mj,rfl,hm⟩;replace hp:=hp.add hm;replace hm:=hm.chg;refine ⟨_,rfl,?_⟩))))<;>(conv=>whnf)))
 obtain ⟨bk,hbk⟩:∃b,b=bb:=⟨_,rfl⟩
 subst hbk
 obtain ⟨X,hX⟩:∃X:Bk,X=⟨x.cfg,x.halt,x.next,bc,bn,bs,bh,bj⟩:=⟨_,rfl⟩
 have hX0:X.cfg=x.cfg∧X.halt=x.halt∧X.next=x.next∧X.bc=bc∧X.bn=bn∧X.bs=bs∧X.bh=bh∧X.bj=bj:=by rw [hX];exact ⟨rfl,rfl,rfl,rfl,rfl,rfl,rfl,rfl⟩
 obtain ⟨x1,x2,x3,rfl,rfl,rfl,rfl,rfl⟩:=hX0
 rw [←hX] at hp
 clear hX
 obtain ⟨g0,hg0⟩:∃g0,g0=(⟨h1,h2, [],0,h3,h4, [],0,h5, [],0,0⟩:Shf):=⟨_,rfl⟩
 have hI0:ShI g0 []:=hg0▸shI_z h1 h2 h3 h4 h5
 have hn0:g0.next=0:=by rw [hg0]
 rw [←hg0] at hp
 clear hg0
 have hsd:1≤x.cfg.dep∧x.cfg.dep≤16:=by
  unfold soundC at hq1
  rw [decide_eq_true_eq] at hq1
  exact hq1.1
 have hsq:1≤x.cfg.ses:=by
  unfold soundC at hq1
  rw [decide_eq_true_eq] at hq1
  exact hq1.2.2.2.1.1
 rw [show max x.cfg.ses 0=x.cfg.ses by omega] at hp
 replace hp:=hp.pick (rs':= [bkR bk X,star (snRs X.bn Y0),tabR X.bs ms x.cfg.ses [],star (shRs X.bh g0),star (jtRs X.bj mj Sl.nil []),star (chlRs X.bc ⟨x.cfg.dep,x.ht,W⟩),cel b1 31 x.c.toArray]) [0,4,3,2,1,5,6] (by decide) rfl
 have hWl:W.l.length=x.win.l.length:=by have:=congrArg List.length hW;rwa [List.length_map,List.length_map] at this
 have hch2:=hch
 unfold chS at hch2
 rw [Bool.and_eq_true,decide_eq_true_eq] at hch2
 obtain ⟨⟨_,_,hl1,hl2⟩,hall⟩:=hch2
 have hwin:∀k,k < x.win.l.length→winAt x.win.l k=true:=fun k hk=>allR_at hall hk
 have hnd:∀c∈W.l,c.tx.l.Nodup∧c.tx.l.length≤32:=fun c hc=>by
  have h1:c.p∈x.win.l.map Blk.p:=hW▸List.mem_map_of_mem hc
  obtain ⟨c',hc',he⟩:=List.mem_map.1 h1
  have h3:c'.tx.l=c.tx.l:=congrArg BlkP.txs he
  rw [←h3]
  obtain ⟨k,hk⟩:=List.getElem?_of_mem hc'
  exact rightB_nd (winAt_right (hwin k (List.getElem?_eq_some_iff.1 hk).1) hk)
 have hca:∀{w:World},(star (chlRs X.bc ⟨x.cfg.dep,x.ht,W⟩)).ok w→ChAt w X.bc ⟨x.cfg.dep,x.ht,W⟩:=fun hh=>chlAt hh hsd (by show (W.l.length:Int)≤_;rw [hWl];exact hl1) (by show W.l.length≤_;rw [hWl];exact hl2) hnd
 have hI1:SnI Y0 [] 0:=⟨by rw [hy1];rfl,by have:=Y0.low.toNat_lt;simp;omega,by simp,fun x=>by rw [hy2];rfl,fun k=>by rw [hy4];exact .nil,fun k y=>by rw [hy4];simp [idx,Sl.nil],by rw [hy3];omega,by rw [hy5];omega⟩
 clear hy1 hy2 hy3 hy4 hy5
 obtain ⟨lw,hlw⟩:∃n:Nat,Chn.low ⟨x.cfg.dep,x.ht,W⟩=n:=⟨_,rfl⟩
 have hlw2:lw=x.ht.toNat+1 - x.win.l.length:=by rw [←hlw,←hWl];rfl
 have hht:=x.ht.toNat_lt
 refine lp_inv (α:=Nat×Snx) (fun a=> [(1,ptr b1),(4,ptr X.bc),(6,ptr bk),(49,x.win.v),(50,i64 x.win.l.length),(51,i64 a.1)]) (fun a w=>a.1≤x.win.l.length∧SnI a.2 ((x.win.l.take a.1).map fun c=>c.tx.l) (32*a.1)∧(a.1≠0→a.2.low=UInt32.ofNat lw)∧Hp N0 w0 w [bkR bk X,star (snRs X.bn a.2),tabR X.bs ms x.cfg.ses [],star (shRs X.bh g0),star (jtRs X.bj mj Sl.nil []),star (chlRs X.bc ⟨x.cfg.dep,x.ht,W⟩),cel b1 31 x.c.toArray]) (fun a=>x.win.l.length - a.1) (0,Y0) (by (repeat' (first|exact trivial|(refine ⟨rfl,?_⟩)))) ⟨by omega,hI1,fun hh=>(hh rfl).elim,hp⟩ ?_
 clear hp hI1
 rintro ⟨i,Y⟩ e0 w ⟨hi,hI,hlow,hp⟩
 dsimp only at hi hI hlow hp ⊢
 rcases Nat.lt_or_ge i x.win.l.length with hlt|hge
 ·obtain ⟨b,o,y,hA,hbb,hrow,hyy⟩:=hs.win.has hlt
  have hmem:=List.mem_of_getElem? hyy
  have hya:=hs.tx y hmem
  have hR:=winAt_right (hwin i hlt) hyy
  have hWne:W.l≠ []:=fun hh=>by rw [hh] at hWl;simp at hWl;omega
  have hclo:∀{w:World},(star (chlRs X.bc ⟨x.cfg.dep,x.ht,W⟩)).ok w→Calls Tryz.prog 105 #[ptr X.bc] w fun e w'=>e= .returned (u32 (UInt32.ofNat lw))∧Chg N0 w w':=fun hh=>by
   have:=clow_any (hca hh)
   rw [if_neg hWne,hlw] at this
   exact this
  have hk1:(UInt32.ofNat lw).toNat=lw:=UInt32.toNat_ofNat_of_lt' (by show _ < 4294967296;omega)
  have hk2:(UInt32.ofNat (lw+i)).toNat=lw+i:=UInt32.toNat_ofNat_of_lt' (by show _ < 4294967296;omega)
  have ar_sum:∀{f:Int→Prop},f ((UInt32.ofNat (lw+i)).toNat:Int)→Ar .u32 (((UInt32.ofNat lw).toNat:Int)+(i:Int)) f:=fun {f} hh=>by
   refine ar_u32 (by omega) ?_
   rw [hk1,show (lw:Int)+(i:Int)=((lw+i:Nat):Int) by omega,←hk2]
   exact hh
  ((conv=>whnf);repeat' ((first|((with_reducible apply br_id);(with_reducible refine br_dec (fun hx=>?_) (fun hx=>?_))<;>(try (exfalso;first|omega|contradiction)))|((with_reducible apply ar_id);first|(refine ar_sum ?_)|refine ar_u32 (by omega) ?_)|((with_reducible apply cn_id);first|refine cn rfl ?_|refine cn ‹_› ?_)|((with_reducible apply ld_id);apply ld_hs hp;(focus repeat' constructor);exact rfl)|((with_reducible apply ldn_id);first|(refine ldn_rowx hp hB ‹_› ‹_› _ rfl ‹_› rfl ?_)|(apply lda_hs hp;(focus repeat' constructor);exact rfl))|((with_reducible apply al_id);refine al_cel hp ?_;clear hp;intro bb w hp)|((with_reducible apply st_id);apply sta_hs hp;(focus repeat' constructor);exact rfl;exact rfl;clear hp;intro w hp;(try dsimp only [List.set] at hp))|((with_reducible apply gen_id);(refine gen_ixs rfl rfl ‹_› rfl rfl (by omega) ?_))|((with_reducible apply dr_id);(refine dr_autos [] 10 tabOk (by kernel_rfl) (by decide+kernel) ?_);replace hp:=hp.drew)|((with_reducible apply cl_id);(refine cl_eq ((hclo (hp.get (j:=6) rfl))) rfl rfl ?_;rintro e w ⟨rfl,hcc⟩;replace hp:=hp.call0 hcc;refine ⟨_,rfl,?_⟩))|((with_reducible apply rd_id);(refine rd_conv tabOk rfl rfl rfl rfl ?_)))<;>(conv=>whnf)))
  have hBk:∀k,(star (snRs X.bn Y)).dom k→B≤k:=fun k hk=>by
   have h2:=hp.own (star (snRs X.bn Y)) (by simp) k hk
   rcases h2 with h2|h2
   ·exact h2.elim
   ·omega
  have hLl:((x.win.l.take i).map fun c:Blk=>c.tx.l).length=i:=by rw [List.length_map,List.length_take];omega
  have hE:pushE Y.low ((x.win.l.take i).map fun c:Blk=>c.tx.l).length (UInt32.ofNat (lw+i)) true=0:=by
   unfold pushE
   rw [hLl,if_neg (by simp)]
   by_cases h0:i=0
   ·rw [if_pos h0]
   ·rw [if_neg h0,if_pos (by rw [hlow h0,hk1,hk2];omega)]
  have hL1:pushL Y.low ((x.win.l.take i).map fun c:Blk=>c.tx.l) (UInt32.ofNat (lw+i)) y.tx.l true=(x.win.l.take (i+1)).map fun c:Blk=>c.tx.l:=by
   unfold pushL
   rw [if_pos hE,List.take_add_one,hyy,List.map_append]
   rfl
  have hW1:pushW Y.low ((x.win.l.take i).map fun c:Blk=>c.tx.l).length (UInt32.ofNat (lw+i)) true=UInt32.ofNat lw:=by
   unfold pushW
   rw [hLl]
   by_cases h0:i=0
   ·rw [if_pos ⟨rfl,h0⟩,h0,Nat.add_zero]
   ·rw [if_neg (fun hh=>h0 hh.2),hlow h0]
  have hpu:=spushI_any (hp.get (j:=2) rfl) hI (by omega) (by rw [hLl];omega) (ht:=UInt32.ofNat (lw+i)) (B:=y) (out_lt (hya.keep hp.chg hB) hBk)
  rw [hR,hE,hL1,hW1] at hpu
  refine cl_eq hpu rfl rfl ?_
  clear hpu
  rintro e w ⟨rfl,Y',T',hI',hlow',_,hm⟩
  replace hp:=hp.via (j:=2) rfl hm.hd
  replace hm:=hm.chg
  dsimp only [List.set] at hp
  refine ⟨_,rfl,?_⟩
  ((conv=>whnf);repeat' (((with_reducible apply ar_id);refine ar_i64 (by omega) ?_)<;>(conv=>whnf)))
  exact lp_next (i+1,Y') (by show x.win.l.length - (i+1) < x.win.l.length - i;omega) (by (repeat' (first|exact trivial|(refine ⟨rfl,?_⟩)))) ⟨by show i+1≤_;omega,hI'.more (by show _≤32*(i+1);omega),fun _=>hlow',hp.tail⟩
 rw [List.take_of_length_le hge] at hI
 have hnz:x.win.l≠ []→Y.low=UInt32.ofNat lw:=fun hh=>hlow (by have:=List.length_pos_iff.2 hh;omega)
 replace hI:=hI.more (K':=32*x.win.l.length) (by omega)
 clear hlow hca hwin hnd
 replace hp:=(hp.pick (rs':= [bkR bk X,tabR X.bs ms x.cfg.ses [],star (shRs X.bh g0),star (snRs X.bn Y),star (jtRs X.bj mj Sl.nil []),star (chlRs X.bc ⟨x.cfg.dep,x.ht,W⟩),cel b1 31 x.c.toArray]) [0,2,3,1,4,5,6] (by decide) rfl).fold 3
 have hdom:∀{w:World} {r:Res} {rs:List Res},Hp N0 w0 w (r::rs)→∀k,r.dom k→B≤k:=fun {w r rs} hp k hk=>by
  have h2:=hp.own r (List.mem_cons_self ..) k hk
  rcases h2 with h2|h2
  ·exact h2.elim
  ·omega
 have hp0:Hp N0 w0 w [star (cliRs bk X ms x.cfg.ses [] g0),star (snRs X.bn Y),star (jtRs X.bj mj Sl.nil []),star (chlRs X.bc ⟨x.cfg.dep,x.ht,W⟩),cel b1 31 x.c.toArray]:=hp
 clear hp
 have hp:=hp0
 clear hp0
 ((conv=>whnf);repeat' ((first|((with_reducible apply br_id);(with_reducible refine br_dec (fun hx=>?_) (fun hx=>?_))<;>(try (exfalso;first|omega|contradiction)))|((with_reducible apply ldn_id);apply lda_hs hp;(focus repeat' constructor);exact rfl))<;>(conv=>whnf)))
 refine cl_eq (clients_any (hp.get (j:=0) rfl) (hs.keep hp.chg hB) (hdom hp) (Nat.le_trans hBw hp.chg.size) hf (by omega) hI0 (by omega)) rfl rfl ?_
 rintro e w ⟨q,tl,g,hq,rfl,hyes,hm⟩
 replace hp:=hp.via (j:=0) rfl hm
 clear hm
 dsimp only [List.set] at hp
 refine ⟨_,rfl,?_⟩
 rw [←Bool.and_assoc,←hq] at hrt
 clear hq
 cases q with
 |false=>
  ((conv=>whnf);repeat' (((with_reducible apply br_id);first|with_reducible refine br_t ?_|with_reducible refine br_f ?_|with_reducible refine br_not ?_)<;>(conv=>whnf)))
  exact ps_val (v':= .tuple #[.pointer none,i64 1]) rfl (.inl ⟨hrt,rfl,hp.chg⟩)
 |true=>
 obtain ⟨rfl,hg⟩:=hyes rfl
 rw [Bool.true_and] at hrt
 have hp1:Hp N0 w0 w [star (breRs bk X mj Sl.nil []),tabR X.bs ms x.cfg.ses (tblOf x.ses.l),star (shRs X.bh g),star (snRs X.bn Y),star (chlRs X.bc ⟨x.cfg.dep,x.ht,W⟩),cel b1 31 x.c.toArray]:=
  (hp.unfold.pick (rs':= [bkR bk X,star (jtRs X.bj mj Sl.nil []),tabR X.bs ms x.cfg.ses (tblOf x.ses.l),star (shRs X.bh g),star (snRs X.bn Y),star (chlRs X.bc ⟨x.cfg.dep,x.ht,W⟩),cel b1 31 x.c.toArray]) [0,4,1,2,3,5,6] (by decide) rfl).fold 2
 clear hp
 have hp:=hp1
 clear hp1
 ((conv=>whnf);repeat' ((first|((with_reducible apply br_id);first|with_reducible refine br_t ?_|with_reducible refine br_f ?_|with_reducible refine br_not ?_)|((with_reducible apply ldn_id);apply lda_hs hp;(focus repeat' constructor);exact rfl))<;>(conv=>whnf)))
 refine cl_eq (breaches_any (hp.get (j:=0) rfl) (hs.keep hp.chg hB) (hdom hp) (Nat.le_trans hBw hp.chg.size) hf hlv jtI_z) rfl rfl ?_
 rintro e w ⟨q,ord,l,hq,rfl,hyes,hm⟩
 replace hp:=hp.via (j:=0) rfl hm
 clear hm
 dsimp only [List.set] at hp
 refine ⟨_,rfl,?_⟩
 rw [←hq] at hrt
 clear hq
 cases q with
 |false=>
  ((conv=>whnf);repeat' (((with_reducible apply br_id);first|with_reducible refine br_f ?_|with_reducible refine br_not ?_)<;>(conv=>whnf)))
  exact ps_val (v':= .tuple #[.pointer none,i64 1]) rfl (.inl ⟨hrt,rfl,hp.chg⟩)
 |true=>
 obtain ⟨hjt,hjl⟩:=hyes rfl
 ((conv=>whnf);repeat' (((with_reducible apply br_id);first|with_reducible refine br_t ?_|with_reducible refine br_f ?_|with_reducible refine br_not ?_)<;>(conv=>whnf)))
 refine ps_val (v':= .tuple #[ptr bk,i64 0]) rfl (.inr ⟨hrt,bk,X,W,Y,ms,g,mj,ord,l,⟨x1,x2,x3,hW,hI,fun hh=>by rw [hnz hh,hlw],hg,hjt,hjl⟩,rfl,?_⟩)
 exact ((hp.unfold.pick (rs':=lodRs bk X ⟨x.cfg.dep,x.ht,W⟩ Y ms x.cfg.ses (tblOf x.ses.l) g mj ord l) [0,5,4,2,3,1] (by decide) rfl).made (.refl _))
theorem bright_any {B:Nat} {w0:World} {x:Sta} (hs:StaAt B w0 x) (hBw:B≤w0.heap.size) (hf:FewI x) (hlv:∀j∈x.jobs.l, -9223372036854775808≤j.live∧j.live≤9223372036854775807):Calls Tryz.prog 17 #[x.v] w0 fun e w'=>e= .returned (.bool (rightS x))∧Chg N0 w0 w':=by
 have hp:=Hp.start (S:=N0) w0
 have hB:∀b,N0 b→B≤b:=fun _ hh=>hh.elim
 refine calls_x (args:= [_]) tabOk Tryz.func17 Tryz.ntmps17 Tryz.results17 rfl (Nat.le_of_ble_eq_true rfl) ?_
 ((conv=>whnf);repeat' ((first|((with_reducible apply ldn_id);apply lda_hs hp;(focus repeat' constructor);exact rfl)|((with_reducible apply al_id);refine al_cel hp ?_;clear hp;intro bb w hp))<;>(conv=>whnf)))
 refine cl_eq (bload_any (hs.keep hp.chg hB) (Nat.le_trans hBw hp.chg.size) hf hlv) rfl rfl ?_
 rintro e w (⟨hq,rfl,hm⟩|⟨hq,bk,X,W,Y,ms,g,mj,ord,l,_,rfl,hm⟩)
 ·replace hp:=hp.call0 hm
  refine ⟨_,rfl,?_⟩
  ((conv=>whnf))
  exact ps_val (v':= .bool false) rfl ⟨by rw [hq],hp.chg⟩
 ·replace hp:=hp.add hm
  refine ⟨_,rfl,?_⟩
  ((conv=>whnf))
  exact ps_val (v':= .bool true) rfl ⟨by rw [hq],hp.chg⟩
structure WrI (room:Nat) (L:List UInt8) (s:Sl UInt8) (bad:Int):Prop where
 le:s.l.length≤L.length
 is:(bad=0∧s.l=L∧L.length≤room)∨(bad=3∧room < L.length)
theorem WrI.put {room:Nat} {L:List UInt8} {s s':Sl UInt8} {bad:Int} (h:WrI room L s bad) (ps:List UInt8) (hs:s'.l=(putW room s.l bad true ps).1):WrI room (L++ps) s' (putW room s.l bad true ps).2:=by
 obtain ⟨h1,h2⟩:=h
 rw [putW] at hs ⊢
 rcases h2 with ⟨rfl,h3,h4⟩|⟨rfl,h3⟩
 ·rw [if_neg (by simp),if_neg (by simp)] at hs ⊢
  split at hs
  ·rename_i h5
   rw [if_pos h5]
   refine ⟨by rw [hs,List.length_append];show s.l.length≤_;omega, .inr ⟨rfl,?_⟩⟩
   rw [h3] at h5
   rw [List.length_append]
   exact h5
  ·rename_i h5
   rw [if_neg h5]
   rw [h3] at h5
   exact ⟨by rw [hs,h3];exact Nat.le_refl _, .inl ⟨rfl,by rw [hs,h3],by rw [List.length_append];omega⟩⟩
 ·rw [if_pos (by decide)] at hs ⊢
  exact ⟨by rw [hs,List.length_append];show s.l.length≤_;omega, .inr ⟨rfl,by rw [List.length_append];omega⟩⟩
theorem wnumI_any {w0:World} {b room:Nat} {s:Sl UInt8} {bad:Int} {L:List UInt8} (n width:Nat) (hw:1≤width∧width≤8) (hn:numFit n width=true) (hnn:n < 2 ^ 64) (hI:WrI room L s bad) (h:(star (wrRs b room s bad)).ok w0) (hL:L.length≤1000000) (hr:room≤2000000000):
  Calls Tryz.prog 43 #[ptr b, .int .u64 n,i64 width] w0 fun e w'=>∃(s':Sl UInt8) (bad':Int),WrI room (L++numB n width) s' bad'∧e= .returned (.tuple #[])∧Mut (star (wrRs b room s bad)) (star (wrRs b room s' bad')) w0 w':=by
 have h1:=hI.le
 refine Calls.mono (wnum_any n width hw hnn h (by omega) hr) ?_
 rintro e w ⟨s',hs',rfl,hm⟩
 rw [hn] at hs' hm
 exact ⟨s',_,hI.put _ hs',rfl,hm⟩
def numsB (l:List UInt32):List UInt8:=l.flatMap fun x=>numB x.toNat 4
theorem numFit4 (x:UInt32):numFit x.toNat 4=true:=by
 have h:=x.toNat_lt
 unfold numFit
 rw [show decide (x.toNat / 2 ^ (8*4)=0)=true from decide_eq_true (Nat.div_eq_of_lt (by simpa using h)),Bool.or_true]
theorem nums_any {B:Nat} {w0:World} {b room:Nat} {s:Sl UInt8} {bad:Int} {L:List UInt8} {x:Sl UInt32} (hI:WrI room L s bad) (h:(star (wrRs b room s bad)).ok w0) (hx:SlOut (star (wrRs b room s bad)).dom B w0 u4L 1 x) (hn:x.l.length≤100) (hL:L.length+400≤1000000) (hr:room≤2000000000):
  Calls Tryz.prog 42 #[ptr b,x.v] w0 fun e w'=>∃(s':Sl UInt8) (bad':Int),WrI room (L++numsB x.l) s' bad'∧e= .returned (.tuple #[])∧Mut (star (wrRs b room s bad)) (star (wrRs b room s' bad')) w0 w':=by
 have hp:=Hp.start1 h
 have u1:=Tryz.underlying73
 refine calls_x (args:= [_,_]) tabOk Tryz.func42 Tryz.ntmps42 Tryz.results42 rfl (Nat.le_of_ble_eq_true rfl) ?_
 ((conv=>whnf);repeat' (((with_reducible apply gen_id);apply gen_len;exact rfl;exact rfl;assumption)<;>(conv=>whnf)))
 refine lp_inv (α:=Nat×Sl UInt8×Int) (fun a=> [(0,ptr b),(6,x.v),(7,i64 x.l.length),(8,i64 a.1)]) (fun a w=>a.1≤x.l.length∧WrI room (L++numsB (x.l.take a.1)) a.2.1 a.2.2∧Hp (star (wrRs b room s bad)).dom w0 w [star (wrRs b room a.2.1 a.2.2)]) (fun a=>x.l.length - a.1) (0,s,bad) (by (repeat' (first|exact trivial|(refine ⟨rfl,?_⟩)))) ⟨by omega,by simpa [numsB] using hI,hp⟩ ?_
 clear hp hI
 rintro ⟨i,s1,bad1⟩ e0 w ⟨hi,hI,hp⟩
 dsimp only at hi hI hp ⊢
 rcases Nat.lt_or_ge i x.l.length with hlt|hge
 ·obtain ⟨bb,o,y,hA,hbb,hrow,hyy⟩:=hx.at_.has hlt
  have hne:x.l≠ []:=fun e=>by rw [e] at hlt;simp at hlt
  have hrow':=hrow.keep hp.chg (hx.out hne bb o hA)
  have hlen:(L++numsB (x.l.take i)).length≤1000000:=by
   have h1:∀l:List UInt32,(numsB l).length=4*l.length:=fun l=>by
    induction l with
    |nil=>rfl
    |cons z l ih=>
     unfold numsB at ih ⊢
     rw [List.flatMap_cons,List.length_append,ih,numB_len _ _ (by omega),List.length_cons]
     omega
   rw [List.length_append,h1,List.length_take]
   omega
  have hy:=y.toNat_lt
  ((conv=>whnf);repeat' ((first|((with_reducible apply br_id);(with_reducible refine br_dec (fun hx=>?_) (fun hx=>?_))<;>(try (exfalso;first|omega|contradiction)))|((with_reducible apply ar_id);refine ar_u64 (by omega) ?_)|((with_reducible apply ld_id);(refine ld_rowat0 hrow' i rfl hyy rfl ?_))|((with_reducible apply gen_id);(refine gen_ixs rfl rfl hA rfl rfl (by omega) ?_)))<;>(conv=>whnf)))
  refine cl_eq (wnumI_any y.toNat 4 (by omega) (numFit4 y) (by omega) hI (hp.get (j:=0) rfl) hlen hr) rfl rfl ?_
  rintro e w ⟨s2,bad2,hI2,rfl,hm⟩
  replace hp:=hp.via (j:=0) rfl hm
  clear hm
  dsimp only [List.set] at hp
  refine ⟨_,rfl,?_⟩
  ((conv=>whnf);repeat' (((with_reducible apply ar_id);refine ar_i64 (by omega) ?_)<;>(conv=>whnf)))
  refine lp_next (i+1,s2,bad2) (by show x.l.length - (i+1) < x.l.length - i;omega) (by (repeat' (first|exact trivial|(refine ⟨rfl,?_⟩)))) ⟨by show i+1≤_;omega,?_,hp⟩
  show WrI room (L++numsB (x.l.take (i+1))) s2 bad2
  rw [List.append_assoc] at hI2
  have h3:numsB (x.l.take (i+1))=numsB (x.l.take i)++numB y.toNat 4:=by
   unfold numsB
   rw [List.take_add_one,hyy,List.flatMap_append]
   simp
  rw [h3]
  exact hI2
 ·rw [List.take_of_length_le hge] at hI
  ((conv=>whnf);repeat' (((with_reducible apply br_id);(with_reducible refine br_dec (fun hx=>?_) (fun hx=>?_))<;>(try (exfalso;first|omega|contradiction)))<;>(conv=>whnf)))
  exact ps_val (v':= .tuple #[]) rfl ⟨s1,bad1,hI,rfl,hp.shut1 (j:=0) rfl⟩
set_option maxHeartbeats 2000000
theorem whint_any {w0:World} {b room:Nat} {s:Sl UInt8} {bad:Int} (h:(star (wrRs b room s bad)).ok w0) (x:Hint) (hs:s.l.length≤1000000) (hr:room≤2000000000):
  Calls Tryz.prog 52 #[ptr b,x.v] w0 fun e w'=>∃s':Sl UInt8,s'.l=(putW room s.l bad true x.toList).1∧e= .returned (.tuple #[])∧Mut (star (wrRs b room s bad)) (star (wrRs b room s' (putW room s.l bad true x.toList).2)) w0 w':=by
 have hp:=Hp.start1 h
 have hxl:x.toList.length=16:=by simp
 refine calls_x (args:= [_,_]) tabOk Tryz.func52 Tryz.ntmps52 Tryz.results52 rfl (Nat.le_of_ble_eq_true rfl) ?_
 ((conv=>whnf);repeat' ((first|((with_reducible apply al_id);refine al_cel hp ?_;clear hp;intro bb w hp)|((with_reducible apply gen_id);(refine gen_arr rfl Tryz.underlying44 rfl rfl x.toList (by simp) ?_)))<;>(conv=>whnf)))
 obtain ⟨b3,hb3⟩:∃y,y=bb:=⟨_,rfl⟩
 subst hb3
 have hout:=cel_out hp (r:=star (wrRs b room s bad)) (by simp)
 ((conv=>whnf);repeat' (((with_reducible apply gen_id);(refine gen_bs rfl hp el_prt prtL [arrS b3 0 x.toList] [(arrS b3 0 x.toList).v] rfl rfl rfl (fun _ hh=>by simp at hh;subst hh;rfl) (by omega) ?_);clear hp;intro br w hp)<;>(conv=>whnf)))
 have hl:(Sl.mk (some ⟨br,0,none⟩) 1 [arrS b3 0 x.toList]).l.flatMap (fun x=>x.l)=x.toList:=List.append_nil _
 refine cl_of (wput_any (B:=w.heap.size) (ps:=⟨some ⟨br,0,none⟩,1, [arrS b3 0 x.toList]⟩) true (hp.get (j:=2) rfl) (out_row hp (by simp)) (fun y hy=>?_) (by rw [hl];omega) hs hr) ?_
 ·simp at hy
  subst hy
  refine ⟨cel_slat hp (j:=1) rfl (fun _ _=>rfl) (hint_flat x) (by rw [hxl];simp [maxLen]),fun _ c o hA=>?_⟩
  cases hA
  exact hout
 rw [hl]
 rintro e w ⟨s',hs',rfl,hm⟩
 replace hp:=hp.via (j:=2) rfl hm
 dsimp only [List.set] at hp
 refine ⟨_,rfl,?_⟩
 ((conv=>whnf))
 exact ps_val (v':= .tuple #[]) rfl ⟨s',hs',rfl,hp.shut1 (j:=2) rfl⟩
theorem wid_any {w0:World} {b room:Nat} {s:Sl UInt8} {bad:Int} (h:(star (wrRs b room s bad)).ok w0) (x:Id) (hs:s.l.length≤1000000) (hr:room≤2000000000):
  Calls Tryz.prog 55 #[ptr b,x.v] w0 fun e w'=>∃s':Sl UInt8,s'.l=(putW room s.l bad true x.toList).1∧e= .returned (.tuple #[])∧Mut (star (wrRs b room s bad)) (star (wrRs b room s' (putW room s.l bad true x.toList).2)) w0 w':=by
 have hp:=Hp.start1 h
 have hxl:x.toList.length=32:=by simp
 refine calls_x (args:= [_,_]) tabOk Tryz.func55 Tryz.ntmps55 Tryz.results55 rfl (Nat.le_of_ble_eq_true rfl) ?_
 ((conv=>whnf);repeat' ((first|((with_reducible apply al_id);refine al_cel hp ?_;clear hp;intro bb w hp)|((with_reducible apply gen_id);(refine gen_arr rfl Tryz.underlying48 rfl rfl x.toList (by simp) ?_)))<;>(conv=>whnf)))
 obtain ⟨b3,hb3⟩:∃y,y=bb:=⟨_,rfl⟩
 subst hb3
 have hout:=cel_out hp (r:=star (wrRs b room s bad)) (by simp)
 ((conv=>whnf);repeat' (((with_reducible apply gen_id);(refine gen_bs rfl hp el_prt prtL [arrS b3 0 x.toList] [(arrS b3 0 x.toList).v] rfl rfl rfl (fun _ hh=>by simp at hh;subst hh;rfl) (by omega) ?_);clear hp;intro br w hp)<;>(conv=>whnf)))
 have hl:(Sl.mk (some ⟨br,0,none⟩) 1 [arrS b3 0 x.toList]).l.flatMap (fun x=>x.l)=x.toList:=List.append_nil _
 refine cl_of (wput_any (B:=w.heap.size) (ps:=⟨some ⟨br,0,none⟩,1, [arrS b3 0 x.toList]⟩) true (hp.get (j:=2) rfl) (out_row hp (by simp)) (fun y hy=>?_) (by rw [hl];omega) hs hr) ?_
 ·simp at hy
  subst hy
  refine ⟨cel_slat hp (j:=1) rfl (fun _ _=>rfl) (id_flat x) (by rw [hxl];simp [maxLen]),fun _ c o hA=>?_⟩
  cases hA
  exact hout
 rw [hl]
 rintro e w ⟨s',hs',rfl,hm⟩
 replace hp:=hp.via (j:=2) rfl hm
 dsimp only [List.set] at hp
 refine ⟨_,rfl,?_⟩
 ((conv=>whnf))
 exact ps_val (v':= .tuple #[]) rfl ⟨s',hs',rfl,hp.shut1 (j:=2) rfl⟩
set_option maxHeartbeats 4000000
theorem idc_flat (X:Id):X.c=X.toList.flatMap u8L:=by
 have h:=id_flat X
 rw [List.drop_zero,List.take_of_length_le (by simp)] at h
 simpa using h
theorem id_part {w:World} {bo o:Nat} {l:List Id} (h:RowAt w Id.c 32 bo o l) {k:Nat} {x:Id} (hk:l[k]? =some x):RowAt w u8L 1 bo (o+k*32) x.toList:=by
 intro i y hi j v hv
 have h1:(Id.c x)[i]? =some (u8 y):=by
  rw [idc_flat]
  have:=flat_at (l:=x.toList) (enc:=u8L) (sz:=1) (fun _ _=>rfl) i y hi 0 (u8 y) rfl
  simpa using this
 have h2:=h k x hk i (u8 y) h1
 obtain rfl:j=0:=by
  cases j with
  |zero=>rfl
  |succ j=>simp [u8L] at hv
 obtain rfl:u8 y=v:=by simpa [u8L] using hv
 rw [Nat.mul_one,Nat.add_zero]
 exact h2
abbrev idA (bo o:Nat) (l:List Id):List (Sl UInt8):=l.zipIdx.map fun p=>arrS bo (o+p.2*32) p.1.toList
theorem idA_next {bo o:Nat} {l:List Id} {i:Nat} {x:Id} (h:l[i]? =some x):idA bo o (l.take (i+1))=idA bo o (l.take i)++ [arrS bo (o+i*32) x.toList]:=by
 have hi:=(List.getElem?_eq_some_iff.1 h).1
 rw [List.take_add_one,h]
 show idA bo o (l.take i++ [x])=_
 unfold idA
 rw [List.zipIdx_append,List.map_append,List.length_take,Nat.min_eq_left (by omega)]
 simp
theorem idA_flat (bo o:Nat) (l:List Id):(idA bo o l).flatMap (·.l)=l.flatMap Vector.toList:=by
 unfold idA
 rw [List.flatMap_map]
 show l.zipIdx.flatMap (fun p=>p.1.toList)=_
 rw [←List.flatMap_map (f:=fun p:Id×Nat=>p.1) (g:=fun x:Id=>x.toList),List.zipIdx_map_fst]
theorem idA_mem {bo o:Nat} {l:List Id} {y:Sl UInt8} (h:y∈idA bo o l):∃k x,l[k]? =some x∧y=arrS bo (o+k*32) x.toList:=by
 unfold idA at h
 obtain ⟨p,hp,rfl⟩:=List.mem_map.1 h
 obtain ⟨h1,h2⟩:=List.mem_zipIdx_iff_getElem?.1 hp |> fun h=>(⟨h,trivial⟩:_∧True)
 exact ⟨p.2,p.1,h1,rfl⟩
theorem prt_one {l:List (Sl UInt8)}:∀x∈l,∀u∈prtL x,u.oneCell'=true:=fun x _ u hu=>by
 rw [List.mem_singleton] at hu
 subst hu
 rfl
theorem wids_any {B:Nat} {w0:World} {b room:Nat} {s:Sl UInt8} {bad:Int} {l:Sl Id} (h:(star (wrRs b room s bad)).ok w0) (hl:SlOut (star (wrRs b room s bad)).dom B w0 Id.c 32 l) (hBw:B≤w0.heap.size) (hn:l.l.length≤1000) (hs:s.l.length≤1000000) (hr:room≤2000000000):
  Calls Tryz.prog 110 #[ptr b,l.v] w0 fun e w'=>∃s':Sl UInt8,s'.l=(putW room s.l bad true (l.l.flatMap Vector.toList)).1∧e= .returned (.tuple #[])∧Mut (star (wrRs b room s bad)) (star (wrRs b room s' (putW room s.l bad true (l.l.flatMap Vector.toList)).2)) w0 w':=by
 have hp:=Hp.start1 h
 have u1:=Tryz.underlying49
 have u2:=Tryz.underlying230
 obtain ⟨bo,o,hA⟩:∃bo o,l.l≠ []→l.A=some ⟨bo,o,none⟩∧bo < B∧RowAt w0 Id.c 32 bo o l.l:=by
  by_cases hne:l.l= []
  ·exact ⟨0,0,fun h=>absurd hne h⟩
  ·obtain ⟨bo,o,h1,h2,h3⟩:=hl.at_.row hne
   exact ⟨bo,o,fun _=>⟨h1,h2,h3⟩⟩
 have hlen:(l.l.flatMap Vector.toList).length=32*l.l.length:=by
  have:∀L:List Id,(L.flatMap Vector.toList).length=32*L.length:=fun L=>by
   induction L with
   |nil=>rfl
   |cons x L ih=>rw [List.flatMap_cons,List.length_append,ih,List.length_cons];simp;omega
  exact this _
 refine calls_x (args:= [_,_]) tabOk Tryz.func110 Tryz.ntmps110 Tryz.results110 rfl (Nat.le_of_ble_eq_true rfl) ?_
 ((conv=>whnf);repeat' (((with_reducible apply gen_id);apply gen_len;exact rfl;exact rfl;assumption)<;>(conv=>whnf)))
 replace hp:=hp.nilRow 34 1 prtL
 refine lp_inv (α:=Nat×Sl (Sl UInt8)) (fun a=> [(0,ptr b),(1,l.v),(4,a.2.v),(7,i64 l.l.length),(8,i64 a.1)]) (fun a w=>a.1≤l.l.length∧a.2.l=idA bo o (l.l.take a.1)∧Hp (star (wrRs b room s bad)).dom w0 w [rowR 34 1 prtL a.2,star (wrRs b room s bad)]) (fun a=>l.l.length - a.1) (0,Sl.nil) (by (repeat' (first|exact trivial|(refine ⟨rfl,?_⟩)))) ⟨by omega,rfl,hp⟩ ?_
 clear hp
 rintro ⟨i,ps⟩ e0 w ⟨hi,hps,hp⟩
 dsimp only at hi hps hp ⊢
 have hpl:ps.l.length=i:=by rw [hps];simp;omega
 rcases Nat.lt_or_ge i l.l.length with hlt|hge
 ·have hne:l.l≠ []:=fun e=>by rw [e] at hlt;simp at hlt
  obtain ⟨hA1,hbo,hrow⟩:=hA hne
  obtain ⟨x,hxx⟩:∃x,l.l[i]? =some x:=⟨_,List.getElem?_eq_getElem hlt⟩
  ((conv=>whnf);repeat' ((first|((with_reducible apply br_id);(with_reducible refine br_dec (fun hx=>?_) (fun hx=>?_))<;>(try (exfalso;first|omega|exact absurd hx ‹_› |exact absurd ‹_› hx)))|((with_reducible apply ar_id);(refine ar_n (i+1) (by omega) (by omega) ?_))|((with_reducible apply gen_id);first|(refine gen_ixs rfl rfl hA1 rfl rfl (by omega) ?_)|(refine gen_arr rfl Tryz.underlying48 rfl rfl x.toList (by simp) ?_)|((refine gen_bs rfl hp el_prt prtL [arrS bo (o+i*32) x.toList] [(arrS bo (o+i*32) x.toList).v] rfl rfl rfl (fun _ hh=>by simp at hh;subst hh;rfl) (by omega) ?_);clear hp;intro br w hp)|((refine gen_app (s:=ps) rfl hp 1 rfl el_prt rfl ⟨some ⟨br,0,none⟩,1, [arrS bo (o+i*32) x.toList]⟩ rfl (hp.row (j:=0) rfl) (fun _ _=>rfl) prt_one (by simp only [List.length_cons,List.length_nil];omega) (by simp only [maxLen,List.length_cons,List.length_nil];omega) ?_);clear hp;intro A2 c2 w hp;dsimp only [List.set] at hp)))<;>(conv=>whnf)))
  exact lp_next (i+1,⟨A2,c2,ps.l++ [arrS bo (o+i*32) x.toList]⟩) (by show l.l.length - (i+1) < l.l.length - i;omega) (by (repeat' (first|exact trivial|(refine ⟨rfl,?_⟩)))) ⟨by show i+1≤_;omega,by show ps.l++_=_;rw [hps,idA_next hxx],hp.tail⟩
 ·rw [List.take_of_length_le hge] at hps
  have hfl:ps.l.flatMap (·.l)=l.l.flatMap Vector.toList:=by rw [hps,idA_flat]
  ((conv=>whnf);repeat' (((with_reducible apply br_id);(with_reducible refine br_dec (fun hx=>?_) (fun hx=>?_))<;>(try (exfalso;first|omega|exact absurd hx ‹_› |exact absurd ‹_› hx)))<;>(conv=>whnf)))
  refine cl_eq (wput_any (B:=w.heap.size) (ps:=ps) true (hp.get (j:=1) rfl) (out_row hp (by simp)) (fun y hy=>?_) (by rw [hfl];omega) hs hr) rfl rfl ?_
  ·rw [hps] at hy
   obtain ⟨k,x,hk,rfl⟩:=idA_mem hy
   have hne:l.l≠ []:=fun e=>by rw [e] at hk;simp at hk
   obtain ⟨hA1,hbo,hrow⟩:=hA hne
   have hrow':=hrow.keep hp.chg (hl.out hne bo o hA1)
   have hbw:bo < w.heap.size:=Nat.lt_of_lt_of_le hbo (Nat.le_trans hBw hp.chg.size)
   refine ⟨⟨Nat.le_refl _,by simp [arrS,maxLen],fun h=>(by cases h),fun _=>⟨bo,o+k*32,rfl,hbw,id_part hrow' hk⟩⟩,fun _ c o' hc=>?_⟩
   cases hc
   exact hl.out hne bo o hA1
  rw [hfl]
  rintro e w ⟨s',hs',rfl,hm⟩
  replace hp:=hp.via (j:=1) rfl hm
  dsimp only [List.set] at hp
  refine ⟨_,rfl,?_⟩
  ((conv=>whnf))
  exact ps_val (v':= .tuple #[]) rfl ⟨s',hs',rfl,hp.shut1 (j:=1) rfl⟩
def blkB (h p:Id) (t:List Id):List UInt8:=h.toList++p.toList++numB t.length 1++t.flatMap Vector.toList
theorem ids_len (L:List Id):(L.flatMap Vector.toList).length=32*L.length:=by
 induction L with
 |nil=>rfl
 |cons x L ih=>
  rw [List.flatMap_cons,List.length_append,ih,List.length_cons]
  simp
  omega
theorem rightB_len {x:Blk} (h:rightB x=true):x.tx.l.length≤32:=by
 unfold rightB at h
 simp only [Bool.and_eq_true,decide_eq_true_eq] at h
 exact h.1.1
theorem benc_any {B:Nat} {w0:World} {x:Blk} (h:SlAt B w0 Id.c 32 x.tx) (hBw:B≤w0.heap.size) (hr:rightB x=true):Calls Tryz.prog 46 #[x.v] w0 fun e w'=>∃r:Sl UInt8,r.l=blkB x.hash x.parent x.tx.l∧e= .returned (.tuple #[r.v,i64 0])∧Made (rowR 5 1 u8L r) w0 w':=by
 have hp:=Hp.start (S:=N0) w0
 have hB:∀b,N0 b→B≤b:=fun _ hh=>hh.elim
 have u1:=Tryz.underlying49
 have hl:=rightB_len hr
 have hri:=fun {w:World} (hc:Chg N0 w0 w)=>blkright_any (b:=x) (h.keep hc hB)
 rw [hr] at hri
 have h1:x.hash.toList.length=32:=by simp
 have h2:x.parent.toList.length=32:=by simp
 have h3:(numB x.tx.l.length 1).length=1:=numB_len _ _ (by omega)
 have h4:=ids_len x.tx.l
 refine calls_x (args:= [_]) tabOk Tryz.func46 Tryz.ntmps46 Tryz.results46 rfl (Nat.le_of_ble_eq_true rfl) ?_
 ((conv=>whnf);repeat' ((first|((with_reducible apply br_id);first|with_reducible refine br_t ?_|with_reducible refine br_not ?_)|((with_reducible apply ldn_id);apply lda_hs hp;(focus repeat' constructor);exact rfl)|((with_reducible apply al_id);refine al_cel hp ?_;clear hp;intro bb w hp)|((with_reducible apply cl_id);(refine cl_eq ((hri hp.chg)) rfl rfl ?_;rintro e w ⟨rfl,hcc⟩;replace hp:=hp.call0 hcc;refine ⟨_,rfl,?_⟩)))<;>(conv=>whnf)))
 obtain ⟨b1,hb1⟩:∃b,b=bb:=⟨_,rfl⟩
 subst hb1
 refine cl_eq (wnew_any 1089 (by omega)) rfl rfl ?_
 rintro e w ⟨b,rfl,hm⟩
 replace hp:=hp.add hm
 clear hm
 refine ⟨_,rfl,?_⟩
 ((conv=>whnf);repeat' (((with_reducible apply ldn_id);apply ldn_hs hp;(focus repeat' constructor);exact rfl;exact rfl)<;>(conv=>whnf)))
 refine cl_eq (wid_any (hp.get (j:=0) rfl) x.hash (by simp [Sl.nil]) (by omega)) rfl rfl ?_
 rintro e w ⟨s1,hs1,rfl,hm⟩
 replace hp:=hp.via (j:=0) rfl hm
 dsimp only [List.set] at hp
 clear hm
 rw [putW_ok (by rw [h1];simp [Sl.nil])] at hs1 hp
 have l1:s1.l.length=32:=by rw [hs1];simp [Sl.nil]
 refine ⟨_,rfl,?_⟩
 ((conv=>whnf);repeat' (((with_reducible apply ldn_id);apply ldn_hs hp;(focus repeat' constructor);exact rfl;exact rfl)<;>(conv=>whnf)))
 refine cl_eq (wid_any (hp.get (j:=0) rfl) x.parent (by omega) (by omega)) rfl rfl ?_
 rintro e w ⟨s2,hs2,rfl,hm⟩
 replace hp:=hp.via (j:=0) rfl hm
 dsimp only [List.set] at hp
 clear hm
 rw [putW_ok (by rw [h2];omega)] at hs2 hp
 have l2:s2.l.length=64:=by rw [hs2,List.length_append];omega
 refine ⟨_,rfl,?_⟩
 ((conv=>whnf);repeat' ((first|((with_reducible apply ar_id);refine ar_u64 (by omega) ?_)|((with_reducible apply ld_id);apply ld_hs hp;(focus repeat' constructor);exact rfl)|((with_reducible apply gen_id);apply gen_len;exact rfl;exact rfl;assumption))<;>(conv=>whnf)))
 refine cl_eq (wnum_any x.tx.l.length 1 (by omega) (by omega) (hp.get (j:=0) rfl) (by omega) (by omega)) rfl rfl ?_
 rintro e w ⟨s3,hs3,rfl,hm⟩
 replace hp:=hp.via (j:=0) rfl hm
 dsimp only [List.set] at hp
 clear hm
 rw [fit_1 (by omega),putW_ok (by rw [h3];omega)] at hs3 hp
 have l3:s3.l.length=65:=by rw [hs3,List.length_append];omega
 refine ⟨_,rfl,?_⟩
 ((conv=>whnf);repeat' (((with_reducible apply ld_id);apply ld_hs hp;(focus repeat' constructor);exact rfl)<;>(conv=>whnf)))
 have hout:SlOut (star (wrRs b 1089 s3 0)).dom B w Id.c 32 x.tx:=⟨h.keep hp.chg hB,fun hne c o hA hd=>by
  obtain ⟨b',o',g1,g2,_⟩:=h.row hne
  rw [hA] at g1
  cases g1
  have g3:=hp.own _ (List.mem_cons_self ..) _ hd
  rcases g3 with g3|g3
  ·exact g3
  ·omega⟩
 refine cl_eq (wids_any (hp.get (j:=0) rfl) hout (Nat.le_trans hBw hp.chg.size) (by omega) (by omega) (by omega)) rfl rfl ?_
 rintro e w ⟨s4,hs4,rfl,hm⟩
 replace hp:=hp.via (j:=0) rfl hm
 dsimp only [List.set] at hp
 clear hm hout
 rw [putW_ok (by omega)] at hs4 hp
 have l4:s4.l.length≤1089:=by rw [hs4,List.length_append];omega
 refine ⟨_,rfl,?_⟩
 ((conv=>whnf))
 refine cl_eq (wdone_any (hp.get (j:=0) rfl) (by omega)) rfl rfl ?_
 rintro e w ⟨r,hrr,rfl,hm⟩
 replace hp:=hp.add hm
 clear hm
 rw [if_pos rfl] at hrr
 refine ⟨_,rfl,?_⟩
 ((conv=>whnf))
 refine ps_val (v':= .tuple #[r.v,i64 0]) rfl ⟨r,?_,rfl,hp.made1 (j:=0) rfl⟩
 rw [hrr,hs4,hs3,hs2,hs1]
 unfold blkB
 simp [Sl.nil]
end Go.Proofs.YtpbapnlnheahnaaGreatDoor
