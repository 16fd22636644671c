/- MImprintBytes31: parts of the proof of ImprintBytes: Imp7, Imp8, CodE, CodD. No condition of their own. -/
import Derived.Test.YtpbapnlnheahnaaGreatDoorMImprintBytes30
import Derived.Test.YtpbapnlnheahnaaGreatDoorMImprintBytes27
import Derived.Test.YtpbapnlnheahnaaGreatDoorMImprintBytes29
import Derived.Test.YtpbapnlnheahnaaGreatDoorMImprintBytes16
set_option linter.unusedSimpArgs false
set_option linter.unusedVariables false
namespace Go.Proofs.YtpbapnlnheahnaaGreatDoor
open Go.RowKit
set_option maxRecDepth 100000
set_option maxHeartbeats 4000000
abbrev u32Z (n:Int):UInt32:=UInt32.ofNat n.toNat
abbrev cfgL (c:Cfg):List UInt32:= [u32Z c.dep,u32Z c.stp,u32Z c.kep,u32Z c.ses,u32Z c.cap,u32Z c.com]
def headB (x:Sta):List UInt8:=numsB (cfgL x.cfg)++numsB [x.ht]++numB x.halt.toNat 1++numsB [x.next]
def staB (x:Sta):List UInt8:=headB x++(numB x.win.l.length 1++x.win.l.flatMap winB)++(numB x.ses.l.length 1++x.ses.l.flatMap sesB)++(numB x.blobs.l.length 2++x.blobs.l.flatMap blobB)++(numB x.jobs.l.length 2++x.jobs.l.flatMap jobB)
structure EncOk (x:Sta):Prop where
 dep:0≤x.cfg.dep∧x.cfg.dep < 4294967296
 stp:0≤x.cfg.stp∧x.cfg.stp < 4294967296
 kep:0≤x.cfg.kep∧x.cfg.kep < 4294967296
 ses:0≤x.cfg.ses∧x.cfg.ses < 4294967296
 cap:0≤x.cfg.cap∧x.cfg.cap < 4294967296
 com:0≤x.cfg.com∧x.cfg.com < 4294967296
 halt:0≤x.halt∧x.halt < 256
 win:x.win.l.length < 256∧∀b∈x.win.l,rightB b=true
 nses:x.ses.l.length < 256
 blobs:x.blobs.l.length < 65536∧∀b∈x.blobs.l,b.data.l.length < 65536
 jobs:x.jobs.l.length < 65536∧∀j∈x.jobs.l,rightP j.pay=true∧(bytesP j.pay.l).length < 65536
 len:(staB x).length≤790000
theorem u32_eq9 {n:Int} (h:0≤n∧n < 4294967296):n=((u32Z n).toNat:Int):=by
 rw [UInt32.toNat_ofNat',Nat.mod_eq_of_lt (by omega)]
 omega
theorem wrx_of {B pw b room:Nat} {s:Sl UInt8} {bad:Int} {w0 w:World} {rs:List Res} {t:TypeId} (hBw:B≤w0.heap.size) (hp:Hp N0 w0 w (star (wrRs b room s bad)::cel pw t #[ptr b]::rs)):WrX B pw b room s bad w where
 ok:=hp.ok _ (List.mem_cons_self ..)
 cell:=by
  have hok:=cel_ok.1 (hp.get (j:=1) rfl)
  simp only [World.cell?,hok]
  rfl
 out hd:=(List.pairwise_cons.1 hp.sep).1 _ (List.mem_cons_self ..) pw hd (cel_dom.2 rfl)
 lt:=heap_lt (cel_ok.1 (hp.get (j:=1) rfl))
 dom k hd:=by
  rcases hp.own _ (List.mem_cons_self ..) k hd with g|g
  ·exact g.elim
  ·omega
 le:=Nat.le_trans hBw hp.chg.size
theorem numsB_snoc (l:List UInt32) (v:UInt32):numsB (l++ [v])=numsB l++numsB [v]:=List.flatMap_append
theorem ar_z9 {n:Int} (h:0≤n∧n < 4294967296) {f:Int→Prop} (hf:f ((u32Z n).toNat:Int)):Ar .u32 n f:=ar_u32 (by omega) (by rw [←u32_eq9 h] at hf;exact hf)
theorem ar_h9 {n:Int} (h:0≤n∧n < 256) {f:Int→Prop} (hf:f ((n.toNat:Nat):Int)):Ar .u64 n f:=ar_u64 (by omega) (by rw [Int.toNat_of_nonneg h.1] at hf;exact hf)
theorem iwrite_any {B:Nat} {w0:World} {x:Sta} (hs:StaAt B w0 x) (hBw:B≤w0.heap.size) (hE:EncOk x) (room:Nat) (hr:room≤2000000000):Calls Tryz.prog 18 #[x.v,i64 room] w0 fun e w'=>∃r:Sl UInt8,r.l=(if (staB x).length≤room then staB x else [])∧e= .returned (.tuple #[r.v,i64 (if (staB x).length≤room then 0 else 3)])∧Made (rowR 5 1 u8L r) w0 w':=by
 have hp:=Hp.start (S:=N0) w0
 have hB:∀b,N0 b→B≤b:=fun _ hh=>hh.elim
 have u6:=Tryz.underlying94
 have hlen:=hE.len
 unfold staB at hlen
 simp only [List.length_append] at hlen
 have hn1:(numsB [x.ht]).length=4:=nums_len _
 have hn2:(numsB [x.next]).length=4:=nums_len _
 have hn3:(numB x.halt.toNat 1).length=1:=numB_len _ _ (by omega)
 have hn6:∀i,(numsB ((cfgL x.cfg).take i)).length≤24:=fun i=>by
  rw [nums_len,List.length_take]
  show 4*min i 6≤24
  omega
 have hn7:(numsB (cfgL x.cfg)).length=24:=nums_len _
 have hhd:(headB x).length=33:=by
  unfold headB
  simp only [List.length_append]
  omega
 refine calls_x (args:= [_,_]) tabOk Tryz.func18 Tryz.ntmps18 Tryz.results18 rfl (Nat.le_of_ble_eq_true rfl) ?_
 ((conv=>whnf);repeat' (((with_reducible apply al_id);refine al_cel hp ?_;clear hp;intro bb w hp)<;>(conv=>whnf)))
 obtain ⟨b2,hb2⟩:∃b,b=bb:=⟨_,rfl⟩
 subst hb2
 refine cl_eq (wnew_any room hr) rfl rfl ?_
 rintro e w ⟨b,rfl,hm⟩
 replace hp:=hp.add hm
 clear hm
 refine ⟨_,rfl,?_⟩
 ((conv=>whnf);repeat' ((first|((with_reducible apply cn_id);refine cn rfl ?_)|((with_reducible apply ld_id);apply ld_hs hp;(focus repeat' constructor);exact rfl)|((with_reducible apply ldn_id);apply ldn_hs hp;(focus repeat' constructor);exact rfl;exact rfl)|((with_reducible apply al_id);refine al_cel hp ?_;clear hp;intro bb w hp)|((with_reducible apply st_id);apply sta_hs hp;(focus repeat' constructor);exact rfl;exact rfl;clear hp;intro w hp;(try dsimp only [List.set] at hp))|((with_reducible apply gen_id);apply gen_build;exact rfl;exact rfl))<;>(conv=>whnf)))
 rename_i pw _ _ _
 have hp0:Hp N0 w0 w [star (wrRs b room Sl.nil 0),cel pw 92 #[ptr b],cel b2 31 x.c.toArray]:=hp.pick [2,1,3] (by decide) rfl
 clear hp
 refine lp_inv (α:=Nat×Sl UInt8×Int) (fun a=> [(2,ptr b2),(6,ptr pw),(26, .agg #[i64 x.cfg.dep,i64 x.cfg.stp,i64 x.cfg.kep,i64 x.cfg.ses,i64 x.cfg.cap,i64 x.cfg.com]),(27,i64 a.1)]) (fun a w=>a.1≤6∧WrI room (numsB ((cfgL x.cfg).take a.1)) a.2.1 a.2.2∧Hp N0 w0 w [star (wrRs b room a.2.1 a.2.2),cel pw 92 #[ptr b],cel b2 31 x.c.toArray]) (fun a=>6 - a.1) (0,Sl.nil,0) (by (repeat' (first|exact trivial|(refine ⟨rfl,?_⟩)))) ⟨Nat.zero_le _,⟨Nat.le_refl _, .inl ⟨rfl,rfl,Nat.zero_le _⟩⟩,hp0⟩ ?_
 clear hp0
 rintro ⟨i,s1,bad1⟩ e0 w ⟨hi,hI,hp⟩
 dsimp only at hi hI hp ⊢
 rcases Nat.lt_or_ge i 6 with hlt|hge
 ·have hni:=hn6 i
  have hcase:i=0∨i=1∨i=2∨i=3∨i=4∨i=5:=by omega
  rcases hcase with rfl|rfl|rfl|rfl|rfl|rfl
  ·((conv=>whnf);repeat' ((first|((with_reducible apply br_id);(with_reducible refine br_dec (fun hx=>?_) (fun hx=>?_))<;>(try (exfalso;first|omega|contradiction)))|((with_reducible apply ar_id);(refine ar_z9 hE.dep ?_))|((with_reducible apply ld_id);apply ld_hs hp;(focus repeat' constructor);exact rfl)|((with_reducible apply gen_id);first|((refine gen_arx (f:=fun z:Int=>i64 z) (l:= [x.cfg.dep,x.cfg.stp,x.cfg.kep,x.cfg.ses,x.cfg.cap,x.cfg.com]) rfl u6 rfl rfl rfl (by omega) 0 (by omega) rfl ?_))|((refine gen_bs rfl hp el_u4 u4L (([u32Z x.cfg.dep]:List UInt32)) ((([u32Z x.cfg.dep]:List UInt32)).map u4) rfl rfl rfl (fun _ hh=>rfl) (by omega) ?_);clear hp;intro br w hp)))<;>(conv=>whnf)))
   refine cl_eq (nums_any (B:=w.heap.size) (x:=⟨some ⟨br,0,none⟩,1, [u32Z x.cfg.dep]⟩) hI (hp.get (j:=1) rfl) (out_row hp (by simp)) (by show 1≤100;omega) (by omega) hr) rfl rfl ?_
   rintro e w ⟨s2,bad2,hI2,rfl,hm⟩
   replace hp:=hp.via (j:=1) rfl hm
   clear hm
   dsimp only [List.set] at hp
   refine ⟨_,rfl,?_⟩
   ((conv=>whnf);repeat' (((with_reducible apply ar_id);(refine ar_n (1) (by omega) (by omega) ?_))<;>(conv=>whnf)))
   exact lp_next (1,s2,bad2) (by show 6 - 1 < 6 - 0;omega) (by (repeat' (first|exact trivial|(refine ⟨rfl,?_⟩)))) ⟨by show 1≤6;omega,by show WrI room (numsB ((cfgL x.cfg).take 1)) s2 bad2;rw [show (cfgL x.cfg).take 1=(cfgL x.cfg).take 0++ [u32Z x.cfg.dep] from rfl,numsB_snoc];exact hI2,hp.tail⟩
  ·((conv=>whnf);repeat' ((first|((with_reducible apply br_id);(with_reducible refine br_dec (fun hx=>?_) (fun hx=>?_))<;>(try (exfalso;first|omega|contradiction)))|((with_reducible apply ar_id);(refine ar_z9 hE.stp ?_))|((with_reducible apply ld_id);apply ld_hs hp;(focus repeat' constructor);exact rfl)|((with_reducible apply gen_id);first|((refine gen_arx (f:=fun z:Int=>i64 z) (l:= [x.cfg.dep,x.cfg.stp,x.cfg.kep,x.cfg.ses,x.cfg.cap,x.cfg.com]) rfl u6 rfl rfl rfl (by omega) 1 (by omega) rfl ?_))|((refine gen_bs rfl hp el_u4 u4L (([u32Z x.cfg.stp]:List UInt32)) ((([u32Z x.cfg.stp]:List UInt32)).map u4) rfl rfl rfl (fun _ hh=>rfl) (by omega) ?_);clear hp;intro br w hp)))<;>(conv=>whnf)))
   refine cl_eq (nums_any (B:=w.heap.size) (x:=⟨some ⟨br,0,none⟩,1, [u32Z x.cfg.stp]⟩) hI (hp.get (j:=1) rfl) (out_row hp (by simp)) (by show 1≤100;omega) (by omega) hr) rfl rfl ?_
   rintro e w ⟨s2,bad2,hI2,rfl,hm⟩
   replace hp:=hp.via (j:=1) rfl hm
   clear hm
   dsimp only [List.set] at hp
   refine ⟨_,rfl,?_⟩
   ((conv=>whnf);repeat' (((with_reducible apply ar_id);(refine ar_n (2) (by omega) (by omega) ?_))<;>(conv=>whnf)))
   exact lp_next (2,s2,bad2) (by show 6 - 2 < 6 - 1;omega) (by (repeat' (first|exact trivial|(refine ⟨rfl,?_⟩)))) ⟨by show 2≤6;omega,by show WrI room (numsB ((cfgL x.cfg).take 2)) s2 bad2;rw [show (cfgL x.cfg).take 2=(cfgL x.cfg).take 1++ [u32Z x.cfg.stp] from rfl,numsB_snoc];exact hI2,hp.tail⟩
  ·((conv=>whnf);repeat' ((first|((with_reducible apply br_id);(with_reducible refine br_dec (fun hx=>?_) (fun hx=>?_))<;>(try (exfalso;first|omega|contradiction)))|((with_reducible apply ar_id);(refine ar_z9 hE.kep ?_))|((with_reducible apply ld_id);apply ld_hs hp;(focus repeat' constructor);exact rfl)|((with_reducible apply gen_id);first|((refine gen_arx (f:=fun z:Int=>i64 z) (l:= [x.cfg.dep,x.cfg.stp,x.cfg.kep,x.cfg.ses,x.cfg.cap,x.cfg.com]) rfl u6 rfl rfl rfl (by omega) 2 (by omega) rfl ?_))|((refine gen_bs rfl hp el_u4 u4L (([u32Z x.cfg.kep]:List UInt32)) ((([u32Z x.cfg.kep]:List UInt32)).map u4) rfl rfl rfl (fun _ hh=>rfl) (by omega) ?_);clear hp;intro br w hp)))<;>(conv=>whnf)))
   refine cl_eq (nums_any (B:=w.heap.size) (x:=⟨some ⟨br,0,none⟩,1, [u32Z x.cfg.kep]⟩) hI (hp.get (j:=1) rfl) (out_row hp (by simp)) (by show 1≤100;omega) (by omega) hr) rfl rfl ?_
   rintro e w ⟨s2,bad2,hI2,rfl,hm⟩
   replace hp:=hp.via (j:=1) rfl hm
   clear hm
   dsimp only [List.set] at hp
   refine ⟨_,rfl,?_⟩
   ((conv=>whnf);repeat' (((with_reducible apply ar_id);(refine ar_n (3) (by omega) (by omega) ?_))<;>(conv=>whnf)))
   exact lp_next (3,s2,bad2) (by show 6 - 3 < 6 - 2;omega) (by (repeat' (first|exact trivial|(refine ⟨rfl,?_⟩)))) ⟨by show 3≤6;omega,by show WrI room (numsB ((cfgL x.cfg).take 3)) s2 bad2;rw [show (cfgL x.cfg).take 3=(cfgL x.cfg).take 2++ [u32Z x.cfg.kep] from rfl,numsB_snoc];exact hI2,hp.tail⟩
  ·((conv=>whnf);repeat' ((first|((with_reducible apply br_id);(with_reducible refine br_dec (fun hx=>?_) (fun hx=>?_))<;>(try (exfalso;first|omega|contradiction)))|((with_reducible apply ar_id);(refine ar_z9 hE.ses ?_))|((with_reducible apply ld_id);apply ld_hs hp;(focus repeat' constructor);exact rfl)|((with_reducible apply gen_id);first|((refine gen_arx (f:=fun z:Int=>i64 z) (l:= [x.cfg.dep,x.cfg.stp,x.cfg.kep,x.cfg.ses,x.cfg.cap,x.cfg.com]) rfl u6 rfl rfl rfl (by omega) 3 (by omega) rfl ?_))|((refine gen_bs rfl hp el_u4 u4L (([u32Z x.cfg.ses]:List UInt32)) ((([u32Z x.cfg.ses]:List UInt32)).map u4) rfl rfl rfl (fun _ hh=>rfl) (by omega) ?_);clear hp;intro br w hp)))<;>(conv=>whnf)))
   refine cl_eq (nums_any (B:=w.heap.size) (x:=⟨some ⟨br,0,none⟩,1, [u32Z x.cfg.ses]⟩) hI (hp.get (j:=1) rfl) (out_row hp (by simp)) (by show 1≤100;omega) (by omega) hr) rfl rfl ?_
   rintro e w ⟨s2,bad2,hI2,rfl,hm⟩
   replace hp:=hp.via (j:=1) rfl hm
   clear hm
   dsimp only [List.set] at hp
   refine ⟨_,rfl,?_⟩
   ((conv=>whnf);repeat' (((with_reducible apply ar_id);(refine ar_n (4) (by omega) (by omega) ?_))<;>(conv=>whnf)))
   exact lp_next (4,s2,bad2) (by show 6 - 4 < 6 - 3;omega) (by (repeat' (first|exact trivial|(refine ⟨rfl,?_⟩)))) ⟨by show 4≤6;omega,by show WrI room (numsB ((cfgL x.cfg).take 4)) s2 bad2;rw [show (cfgL x.cfg).take 4=(cfgL x.cfg).take 3++ [u32Z x.cfg.ses] from rfl,numsB_snoc];exact hI2,hp.tail⟩
  ·((conv=>whnf);repeat' ((first|((with_reducible apply br_id);(with_reducible refine br_dec (fun hx=>?_) (fun hx=>?_))<;>(try (exfalso;first|omega|contradiction)))|((with_reducible apply ar_id);(refine ar_z9 hE.cap ?_))|((with_reducible apply ld_id);apply ld_hs hp;(focus repeat' constructor);exact rfl)|((with_reducible apply gen_id);first|((refine gen_arx (f:=fun z:Int=>i64 z) (l:= [x.cfg.dep,x.cfg.stp,x.cfg.kep,x.cfg.ses,x.cfg.cap,x.cfg.com]) rfl u6 rfl rfl rfl (by omega) 4 (by omega) rfl ?_))|((refine gen_bs rfl hp el_u4 u4L (([u32Z x.cfg.cap]:List UInt32)) ((([u32Z x.cfg.cap]:List UInt32)).map u4) rfl rfl rfl (fun _ hh=>rfl) (by omega) ?_);clear hp;intro br w hp)))<;>(conv=>whnf)))
   refine cl_eq (nums_any (B:=w.heap.size) (x:=⟨some ⟨br,0,none⟩,1, [u32Z x.cfg.cap]⟩) hI (hp.get (j:=1) rfl) (out_row hp (by simp)) (by show 1≤100;omega) (by omega) hr) rfl rfl ?_
   rintro e w ⟨s2,bad2,hI2,rfl,hm⟩
   replace hp:=hp.via (j:=1) rfl hm
   clear hm
   dsimp only [List.set] at hp
   refine ⟨_,rfl,?_⟩
   ((conv=>whnf);repeat' (((with_reducible apply ar_id);(refine ar_n (5) (by omega) (by omega) ?_))<;>(conv=>whnf)))
   exact lp_next (5,s2,bad2) (by show 6 - 5 < 6 - 4;omega) (by (repeat' (first|exact trivial|(refine ⟨rfl,?_⟩)))) ⟨by show 5≤6;omega,by show WrI room (numsB ((cfgL x.cfg).take 5)) s2 bad2;rw [show (cfgL x.cfg).take 5=(cfgL x.cfg).take 4++ [u32Z x.cfg.cap] from rfl,numsB_snoc];exact hI2,hp.tail⟩
  ·((conv=>whnf);repeat' ((first|((with_reducible apply br_id);(with_reducible refine br_dec (fun hx=>?_) (fun hx=>?_))<;>(try (exfalso;first|omega|contradiction)))|((with_reducible apply ar_id);(refine ar_z9 hE.com ?_))|((with_reducible apply ld_id);apply ld_hs hp;(focus repeat' constructor);exact rfl)|((with_reducible apply gen_id);first|((refine gen_arx (f:=fun z:Int=>i64 z) (l:= [x.cfg.dep,x.cfg.stp,x.cfg.kep,x.cfg.ses,x.cfg.cap,x.cfg.com]) rfl u6 rfl rfl rfl (by omega) 5 (by omega) rfl ?_))|((refine gen_bs rfl hp el_u4 u4L (([u32Z x.cfg.com]:List UInt32)) ((([u32Z x.cfg.com]:List UInt32)).map u4) rfl rfl rfl (fun _ hh=>rfl) (by omega) ?_);clear hp;intro br w hp)))<;>(conv=>whnf)))
   refine cl_eq (nums_any (B:=w.heap.size) (x:=⟨some ⟨br,0,none⟩,1, [u32Z x.cfg.com]⟩) hI (hp.get (j:=1) rfl) (out_row hp (by simp)) (by show 1≤100;omega) (by omega) hr) rfl rfl ?_
   rintro e w ⟨s2,bad2,hI2,rfl,hm⟩
   replace hp:=hp.via (j:=1) rfl hm
   clear hm
   dsimp only [List.set] at hp
   refine ⟨_,rfl,?_⟩
   ((conv=>whnf);repeat' (((with_reducible apply ar_id);(refine ar_n (6) (by omega) (by omega) ?_))<;>(conv=>whnf)))
   exact lp_next (6,s2,bad2) (by show 6 - 6 < 6 - 5;omega) (by (repeat' (first|exact trivial|(refine ⟨rfl,?_⟩)))) ⟨by show 6≤6;omega,by show WrI room (numsB ((cfgL x.cfg).take 6)) s2 bad2;rw [show (cfgL x.cfg).take 6=(cfgL x.cfg).take 5++ [u32Z x.cfg.com] from rfl,numsB_snoc];exact hI2,hp.tail⟩
 ·obtain rfl:i=6:=by omega
  rw [show (cfgL x.cfg).take 6=cfgL x.cfg from rfl] at hI
  ((conv=>whnf);repeat' ((first|((with_reducible apply br_id);(with_reducible refine br_dec (fun hx=>?_) (fun hx=>?_))<;>(try (exfalso;first|omega|contradiction)))|((with_reducible apply ld_id);apply ld_hs hp;(focus repeat' constructor);exact rfl)|((with_reducible apply gen_id);(refine gen_bs rfl hp el_u4 u4L (([x.ht]:List UInt32)) ((([x.ht]:List UInt32)).map u4) rfl rfl rfl (fun _ hh=>rfl) (by omega) ?_);clear hp;intro br w hp))<;>(conv=>whnf)))
  refine cl_eq (nums_any (B:=w.heap.size) (x:=⟨some ⟨br,0,none⟩,1, [x.ht]⟩) hI (hp.get (j:=1) rfl) (out_row hp (by simp)) (by show 1≤100;omega) (by omega) hr) rfl rfl ?_
  clear hI
  rintro e w ⟨s2,bad2,hI,rfl,hm⟩
  replace hp:=hp.via (j:=1) rfl hm
  clear hm
  dsimp only [List.set] at hp
  refine ⟨_,rfl,?_⟩
  replace hp:=hp.tail
  ((conv=>whnf);repeat' ((first|((with_reducible apply ar_id);(refine ar_h9 hE.halt ?_))|((with_reducible apply ld_id);apply ld_hs hp;(focus repeat' constructor);exact rfl))<;>(conv=>whnf)))
  refine cl_eq (wnumI_any x.halt.toNat 1 (by omega) (numFit1 (by have:=hE.halt;omega)) (by have:=hE.halt;omega) hI (hp.get (j:=0) rfl) (by simp only [List.length_append];omega) hr) rfl rfl ?_
  clear hI
  rintro e w ⟨s2,bad2,hI,rfl,hm⟩
  replace hp:=hp.via (j:=0) rfl hm
  clear hm
  dsimp only [List.set] at hp
  refine ⟨_,rfl,?_⟩
  ((conv=>whnf);repeat' ((first|((with_reducible apply ld_id);apply ld_hs hp;(focus repeat' constructor);exact rfl)|((with_reducible apply gen_id);(refine gen_bs rfl hp el_u4 u4L (([x.next]:List UInt32)) ((([x.next]:List UInt32)).map u4) rfl rfl rfl (fun _ hh=>rfl) (by omega) ?_);clear hp;intro br w hp))<;>(conv=>whnf)))
  refine cl_eq (nums_any (B:=w.heap.size) (x:=⟨some ⟨br,0,none⟩,1, [x.next]⟩) hI (hp.get (j:=1) rfl) (out_row hp (by simp)) (by show 1≤100;omega) (by simp only [List.length_append];omega) hr) rfl rfl ?_
  clear hI
  rintro e w ⟨s2,bad2,hI,rfl,hm⟩
  replace hp:=hp.via (j:=1) rfl hm
  clear hm
  dsimp only [List.set] at hp
  refine ⟨_,rfl,?_⟩
  replace hp:=hp.tail
  rw [show numsB (cfgL x.cfg)++numsB [x.ht]++numB x.halt.toNat 1++numsB [x.next]=headB x from rfl] at hI
  ((conv=>whnf);repeat' ((first|((with_reducible apply ld_id);apply ld_hs hp;(focus repeat' constructor);exact rfl)|((with_reducible apply gen_id);(refine gen_mkf rfl rfl ?_)))<;>(conv=>whnf)))
  refine cl_eq (lay1_any (pw:=pw) (hs.win.keep hp.chg hB) (fun y hy=>⟨(hs.tx y hy).keep hp.chg hB,hE.win.2 y hy⟩) hE.win.1 (wrx_of hBw hp) hI (by (try simp only [List.length_append]);omega) hr) rfl rfl ?_
  clear hI
  rintro e w ⟨s2,bad2,hI,rfl,hm⟩
  replace hp:=hp.via (j:=0) rfl hm
  clear hm
  dsimp only [List.set] at hp
  refine ⟨_,rfl,?_⟩
  ((conv=>whnf);repeat' ((first|((with_reducible apply ld_id);apply ld_hs hp;(focus repeat' constructor);exact rfl)|((with_reducible apply gen_id);(refine gen_mkf rfl rfl ?_)))<;>(conv=>whnf)))
  refine cl_eq (lay2_any (pw:=pw) (hs.ses.keep hp.chg hB) hE.nses (wrx_of hBw hp) hI (by (try simp only [List.length_append]);omega) hr) rfl rfl ?_
  clear hI
  rintro e w ⟨s2,bad2,hI,rfl,hm⟩
  replace hp:=hp.via (j:=0) rfl hm
  clear hm
  dsimp only [List.set] at hp
  refine ⟨_,rfl,?_⟩
  ((conv=>whnf);repeat' ((first|((with_reducible apply ld_id);apply ld_hs hp;(focus repeat' constructor);exact rfl)|((with_reducible apply gen_id);(refine gen_mkf rfl rfl ?_)))<;>(conv=>whnf)))
  refine cl_eq (lay3_any (pw:=pw) (hs.blobs.row.keep hp.chg hB) (fun y hy=>⟨(hs.blobs.data y hy).keep hp.chg hB,hE.blobs.2 y hy⟩) hE.blobs.1 (wrx_of hBw hp) hI (by (try simp only [List.length_append]);omega) hr) rfl rfl ?_
  clear hI
  rintro e w ⟨s2,bad2,hI,rfl,hm⟩
  replace hp:=hp.via (j:=0) rfl hm
  clear hm
  dsimp only [List.set] at hp
  refine ⟨_,rfl,?_⟩
  ((conv=>whnf);repeat' ((first|((with_reducible apply ld_id);apply ld_hs hp;(focus repeat' constructor);exact rfl)|((with_reducible apply gen_id);(refine gen_mkf rfl rfl ?_)))<;>(conv=>whnf)))
  refine cl_eq (lay4_any (pw:=pw) (hs.jobs.keep hp.chg hB) (fun y hy=>⟨(hs.pay y hy).keep hp.chg hB,hE.jobs.2 y hy⟩) hE.jobs.1 (wrx_of hBw hp) hI (by (try simp only [List.length_append]);omega) hr) rfl rfl ?_
  clear hI
  rintro e w ⟨s2,bad2,hI,rfl,hm⟩
  replace hp:=hp.via (j:=0) rfl hm
  clear hm
  dsimp only [List.set] at hp
  refine ⟨_,rfl,?_⟩
  rw [show headB x++(numB x.win.l.length 1++x.win.l.flatMap winB)++(numB x.ses.l.length 1++x.ses.l.flatMap sesB)++(numB x.blobs.l.length 2++x.blobs.l.flatMap blobB)++(numB x.jobs.l.length 2++x.jobs.l.flatMap jobB)=staB x from rfl] at hI
  ((conv=>whnf);repeat' (((with_reducible apply ld_id);apply ld_hs hp;(focus repeat' constructor);exact rfl)<;>(conv=>whnf)))
  have hle:=hI.le
  have hxl:=hE.len
  refine cl_eq (wdone_any (hp.get (j:=0) rfl) (by omega)) rfl rfl ?_
  rintro e w ⟨r,hrr,rfl,hm⟩
  replace hp:=hp.add hm
  clear hm
  refine ⟨_,rfl,?_⟩
  ((conv=>whnf))
  rcases hI.is with ⟨hb0,hl0,hle0⟩|⟨hb3,hgt⟩
  ·subst hb0
   rw [if_pos rfl] at hrr
   exact ps_of ⟨r,by rw [if_pos hle0,hrr,hl0],by rw [if_pos hle0];rfl,hp.made1 (j:=0) rfl⟩
  ·subst hb3
   rw [if_neg (by decide)] at hrr
   exact ps_of ⟨r,by rw [if_neg (by omega),hrr],by rw [if_neg (by omega)];rfl,hp.made1 (j:=0) rfl⟩
theorem flat_mul {α:Type} {f:α→List UInt8} {M:Nat}:∀{l:List α},(∀x∈l,(f x).length≤M)→(l.flatMap f).length≤M*l.length
 | [],_=>Nat.zero_le _
 |x::l,h=>by
  rw [List.flatMap_cons,List.length_append,List.length_cons,Nat.mul_succ]
  have h1:=h x (List.mem_cons_self ..)
  have h2:=flat_mul (f:=f) (M:=M) (l:=l) fun y hy=>h y (List.mem_cons_of_mem _ hy)
  omega
theorem pckB_len (x:List UInt8):(pckB x).length=2+x.length:=by
 unfold pckB
 rw [List.length_append,numB_len _ _ (by omega)]
theorem bytesP_len {p:Payload} (h:rightP p=true):(bytesP p.l).length≤553:=by
 obtain ⟨h1,h2,h3⟩:=rightP_at h
 unfold bytesP
 have:=flat_le (l:=p.l) fun t ht=>(h3 t ht).2
 rw [List.length_append,numB_len _ _ (by omega)]
 omega
theorem enc_ok {x:Sta} (h:rightS x=true) (hb:x.blobs.l.length≤600) (hj:x.jobs.l.length≤600):EncOk x:=by
 have hq:=h
 unfold rightS at hq
 simp only [Bool.and_eq_true] at hq
 obtain ⟨q1,q2,q3,q4,q5,q6⟩:=hq
 unfold soundC at q1
 unfold haltE at q2
 unfold chS at q3
 unfold sesS at q4
 simp only [Bool.and_eq_true,decide_eq_true_eq] at q1 q2 q3 q4
 obtain ⟨⟨d1,d2,d3,_⟩,hw⟩:=q3
 have hws:∀b∈x.win.l,rightB b=true:=fun b hbm=>by
  obtain ⟨i,hi⟩:=List.mem_iff_getElem?.1 hbm
  have:=allR_at hw (List.getElem?_eq_some_iff.1 hi).1
  unfold winAt at this
  rw [hi] at this
  simp only [Bool.and_eq_true] at this
  exact this.1
 have hbs:∀b∈x.blobs.l,b.data.l.length≤600:=fun b hbm=>by
  obtain ⟨i,hi⟩:=List.mem_iff_getElem?.1 hbm
  have hil:=(List.getElem?_eq_some_iff.1 hi).1
  have:=allR_at q5 (k:=i) (by rw [List.length_map];exact hil)
  unfold blobAt at this
  rw [List.getElem?_map,hi] at this
  simp only [Option.map_some,Bool.and_eq_true,decide_eq_true_eq] at this
  have h2:=this.2
  unfold addE at h2
  split at h2
  ·omega
  ·rename_i h3
   exact Nat.le_of_not_lt h3
 have hjs:∀j∈x.jobs.l,rightP j.pay=true:=fun j hjm=>by
  obtain ⟨i,hi⟩:=List.mem_iff_getElem?.1 hjm
  have:=allR_at q6 (List.getElem?_eq_some_iff.1 hi).1
  unfold jobAt at this
  rw [hi] at this
  simp only [Bool.and_eq_true] at this
  have h2:=this.1
  unfold rightJ at h2
  simp only [Bool.and_eq_true] at h2
  exact h2.1
 have l1:(x.win.l.flatMap winB).length≤1091*x.win.l.length:=flat_mul fun b hbm=>by
  have:=rightB_len (hws b hbm)
  unfold winB
  rw [pckB_len,blkB_len]
  omega
 have l2:(x.ses.l.flatMap sesB).length≤16*x.ses.l.length:=flat_mul fun b _=>by
  unfold sesB
  rw [nums_len]
  exact Nat.le_refl _
 have l3:(x.blobs.l.flatMap blobB).length≤626*x.blobs.l.length:=flat_mul fun b hbm=>by
  have:=hbs b hbm
  unfold blobB
  rw [List.length_append,List.length_append,nums_len,pckB_len]
  simp
  omega
 have l4:(x.jobs.l.flatMap jobB).length≤603*x.jobs.l.length:=flat_mul fun j hjm=>by
  have:=bytesP_len (hjs j hjm)
  unfold jobB
  rw [List.length_append,List.length_append,List.length_append,nums_len,nums_len,pckB_len]
  simp
  omega
 have hhd:(headB x).length=33:=by
  unfold headB
  rw [List.length_append,List.length_append,List.length_append,nums_len,nums_len,nums_len,numB_len _ _ (by omega)]
  rfl
 refine ⟨by omega,by omega,by omega,by omega,by omega,by omega,by omega,⟨by omega,hws⟩,by omega,⟨by omega,fun b hbm=>by have:=hbs b hbm;omega⟩,⟨by omega,fun j hjm=>⟨hjs j hjm,by have:=bytesP_len (hjs j hjm);omega⟩⟩,?_⟩
 unfold staB
 simp only [List.length_append]
 rw [numB_len _ _ (by omega),numB_len _ _ (by omega),numB_len _ _ (by omega),numB_len _ _ (by omega)]
 omega
def encS (x:Sta):List UInt8×Int:=if rightS x=true then (if (staB x).length≤60000 then (staB x,0) else ([],3)) else ([],1)
theorem iencode_any {B:Nat} {w0:World} {x:Sta} (hs:StaAt B w0 x) (hBw:B≤w0.heap.size) (hf:FewI x) (hlv:∀j∈x.jobs.l, -9223372036854775808≤j.live∧j.live≤9223372036854775807):Calls Tryz.prog 7 #[x.v] w0 fun e w'=>∃r:Sl UInt8,r.l=(encS x).1∧e= .returned (.tuple #[r.v,i64 (encS x).2])∧Made (rowR 5 1 u8L r) w0 w':=by
 have hp:=Hp.start (S:=N0) w0
 have hB:∀b,N0 b→B≤b:=fun _ hh=>hh.elim
 have hrt:=fun {w:World} (hc:Chg N0 w0 w)=>bright_any (hs.keep hc hB) (Nat.le_trans hBw hc.size) hf hlv
 unfold encS
 cases hq:rightS x with
 |false=>
  rw [hq] at hrt
  rw [if_neg (by decide)]
  refine calls_x (args:= [_]) tabOk Tryz.func7 Tryz.ntmps7 Tryz.results7 rfl (Nat.le_of_ble_eq_true rfl) ?_
  ((conv=>whnf);repeat' ((first|((with_reducible apply br_id);first|with_reducible refine br_f ?_|with_reducible refine br_not ?_)|((with_reducible apply ldn_id);apply lda_hs hp;(focus repeat' constructor);exact rfl)|((with_reducible apply al_id);refine al_cel hp ?_;clear hp;intro bb w hp)|((with_reducible apply cl_id);(refine cl_eq ((hrt hp.chg)) rfl rfl ?_;rintro e w ⟨rfl,hcc⟩;replace hp:=hp.call0 hcc;refine ⟨_,rfl,?_⟩)))<;>(conv=>whnf)))
  exact ps_val (v':= .tuple #[.slice none 0 0,i64 1]) rfl ⟨Sl.nil,rfl,rfl,(hp.nilRow 5 1 u8L).made1 (j:=0) rfl⟩
 |true=>
  rw [hq] at hrt
  rw [if_pos rfl]
  have hE:=enc_ok hq hf.blobs hf.jobs
  refine calls_x (args:= [_]) tabOk Tryz.func7 Tryz.ntmps7 Tryz.results7 rfl (Nat.le_of_ble_eq_true rfl) ?_
  ((conv=>whnf);repeat' ((first|((with_reducible apply br_id);first|with_reducible refine br_t ?_|with_reducible refine br_not ?_)|((with_reducible apply ldn_id);apply lda_hs hp;(focus repeat' constructor);exact rfl)|((with_reducible apply al_id);refine al_cel hp ?_;clear hp;intro bb w hp)|((with_reducible apply cl_id);(refine cl_eq ((hrt hp.chg)) rfl rfl ?_;rintro e w ⟨rfl,hcc⟩;replace hp:=hp.call0 hcc;refine ⟨_,rfl,?_⟩)))<;>(conv=>whnf)))
  refine cl_eq (iwrite_any (hs.keep hp.chg hB) (Nat.le_trans hBw hp.chg.size) hE 60000 (by omega)) rfl rfl ?_
  rintro e w ⟨r,hr,rfl,hm⟩
  replace hp:=hp.add hm
  clear hm
  refine ⟨_,rfl,?_⟩
  by_cases hl:(staB x).length≤60000
  ·rw [if_pos hl] at hr ⊢
   rw [if_pos hl]
   ((conv=>whnf);repeat' (((with_reducible apply br_id);(with_reducible refine br_ne (fun hx=>?_) (fun hx=>?_))<;>(try (exfalso;first|omega|contradiction)))<;>(conv=>whnf)))
   exact ps_val (v':= .tuple #[r.v,i64 0]) rfl ⟨r,hr,rfl,hp.made1 (j:=0) rfl⟩
  ·rw [if_neg hl] at hr ⊢
   rw [if_neg hl]
   ((conv=>whnf);repeat' (((with_reducible apply br_id);(with_reducible refine br_ne (fun hx=>?_) (fun hx=>?_))<;>(try (exfalso;first|omega|contradiction)))<;>(conv=>whnf)))
   exact ps_val (v':= .tuple #[.slice none 0 0,i64 3]) rfl ⟨Sl.nil,rfl,rfl,(hp.nilRow 5 1 u8L).made1 (j:=0) rfl⟩
theorem ibytes_any {B:Nat} {w0:World} {x:Sta} (hs:StaAt B w0 x) (hBw:B≤w0.heap.size) (hf:FewI x) (hlv:∀j∈x.jobs.l, -9223372036854775808≤j.live∧j.live≤9223372036854775807):Calls Tryz.prog 9 #[x.v] w0 fun e w'=>e= .returned (i64 (if rightS x=true then (staB x).length else 0:Nat))∧Chg N0 w0 w':=by
 have hp:=Hp.start (S:=N0) w0
 have hB:∀b,N0 b→B≤b:=fun _ hh=>hh.elim
 have u1:=Tryz.underlying34
 have hrt:=fun {w:World} (hc:Chg N0 w0 w)=>bright_any (hs.keep hc hB) (Nat.le_trans hBw hc.size) hf hlv
 cases hq:rightS x with
 |false=>
  rw [hq] at hrt
  rw [if_neg (by decide)]
  refine calls_x (args:= [_]) tabOk Tryz.func9 Tryz.ntmps9 Tryz.results9 rfl (Nat.le_of_ble_eq_true rfl) ?_
  ((conv=>whnf);repeat' ((first|((with_reducible apply br_id);first|with_reducible refine br_f ?_|with_reducible refine br_not ?_)|((with_reducible apply ldn_id);apply lda_hs hp;(focus repeat' constructor);exact rfl)|((with_reducible apply al_id);refine al_cel hp ?_;clear hp;intro bb w hp)|((with_reducible apply cl_id);(refine cl_eq ((hrt hp.chg)) rfl rfl ?_;rintro e w ⟨rfl,hcc⟩;replace hp:=hp.call0 hcc;refine ⟨_,rfl,?_⟩)))<;>(conv=>whnf)))
  exact ps_val (v':=i64 0) rfl ⟨rfl,hp.chg⟩
 |true=>
  rw [hq] at hrt
  rw [if_pos rfl]
  have hE:=enc_ok hq hf.blobs hf.jobs
  have hlen:=hE.len
  refine calls_x (args:= [_]) tabOk Tryz.func9 Tryz.ntmps9 Tryz.results9 rfl (Nat.le_of_ble_eq_true rfl) ?_
  ((conv=>whnf);repeat' ((first|((with_reducible apply br_id);first|with_reducible refine br_t ?_|with_reducible refine br_not ?_)|((with_reducible apply ldn_id);apply lda_hs hp;(focus repeat' constructor);exact rfl)|((with_reducible apply al_id);refine al_cel hp ?_;clear hp;intro bb w hp)|((with_reducible apply cl_id);(refine cl_eq ((hrt hp.chg)) rfl rfl ?_;rintro e w ⟨rfl,hcc⟩;replace hp:=hp.call0 hcc;refine ⟨_,rfl,?_⟩)))<;>(conv=>whnf)))
  refine cl_eq (iwrite_any (hs.keep hp.chg hB) (Nat.le_trans hBw hp.chg.size) hE 1073741824 (by omega)) rfl rfl ?_
  rintro e w ⟨r,hr,rfl,hm⟩
  rw [if_pos (by omega)] at hr
  replace hp:=hp.add hm
  clear hm
  refine ⟨_,rfl,?_⟩
  ((conv=>whnf);repeat' (((with_reducible apply gen_id);apply gen_len;exact rfl;exact rfl;assumption)<;>(conv=>whnf)))
  exact ps_val (v':=i64 r.l.length) rfl ⟨by rw [hr],hp.chg⟩
set_option maxHeartbeats 2000000
theorem u32C_enc (x:UInt32):u32C.enc x=numB x.toNat 4:=rfl
theorem sesC_enc (x:Sess):sesC.enc x=sesB x:=by
 show u32C.enc x.id++(u32C.enc x.quota++(u32C.enc x.used++u32C.enc x.exp))=_
 unfold sesB numsB
 simp [u32C_enc]
theorem sesC_ok (x:Sess):sesC.ok x:=⟨⟨u32C_ok _,u32C_ok _,u32C_ok _,u32C_ok _⟩,rfl⟩
theorem blobC_enc (x:Blob):blobC.enc x.p=blobB x:=by
 show u32C.enc x.key.ses++(u32C.enc x.key.seq++(x.hint.toList++(numB x.data.l.length 2++x.data.l)))=_
 unfold blobB numsB pckB
 simp [u32C_enc]
theorem blobC_ok (x:Blob) (h:x.data.l.length < 65536):blobC.ok x.p:=⟨⟨u32C_ok _,u32C_ok _,hintC_ok _,show x.data.l.length < 256 ^ 2 by omega⟩,rfl⟩
theorem blkC_enc (x:Blk):blkC.enc x.p=blkB x.hash x.parent x.tx.l:=by
 show x.hash.toList++(x.parent.toList++(numB x.tx.l.length 1++x.tx.l.flatMap Vector.toList))=_
 unfold blkB
 simp
theorem winC_enc (x:Blk):(pckC N2 blkF).enc x.p=winB x:=by
 show numB (blkC.enc x.p).length 2++blkC.enc x.p=_
 rw [blkC_enc]
 rfl
theorem winC_ok (x:Blk) (h:rightB x=true):(pckC N2 blkF).ok x.p:=by
 have hl:=rightB_len h
 refine ⟨⟨⟨⟨idC_ok _,idC_ok _,⟨show x.tx.l.length < 256 ^ 1 by omega,decide_eq_true hl⟩,fun y _=>idC_ok y⟩,rfl⟩,?_⟩,?_⟩
 ·exact h
 ·show (blkC.enc x.p).length < 256 ^ 2
  rw [blkC_enc,blkB_len]
  omega
theorem payOf_right {p:Payload}:rightP (payOf (p.l.map tk))=rightP p:=rightP_congr (payOf_tk _)
theorem payB_eq (p:Payload):payB (p.l.map tk)=bytesP p.l:=by
 rw [bytesP_tk]
 unfold payB
 rw [List.length_map]
theorem jobC_enc (x:Job):jobC.enc (restJ x.p)=jobB x:=by
 show u32C.enc x.key.ses++(u32C.enc x.key.seq++(x.breach.toList++(u32C.enc x.height++(u32C.enc x.mined++(numB (payB (x.pay.l.map tk)).length 2++payB (x.pay.l.map tk))))))=_
 rw [payB_eq]
 unfold jobB numsB pckB
 simp [u32C_enc]
theorem jobC_ok (x:Job) (h:rightP x.pay=true) (hl:(bytesP x.pay.l).length < 65536):jobC.ok (restJ x.p):=by
 refine ⟨⟨u32C_ok _,u32C_ok _,idC_ok _,u32C_ok _,u32C_ok _,?_,?_⟩,rfl⟩
 ·show rightP (payOf (x.pay.l.map tk))=true
  rw [payOf_right]
  exact h
 ·show (payB (x.pay.l.map tk)).length < 256 ^ 2
  rw [payB_eq]
  omega
theorem intC_ok {n:Int} (h:0≤n∧n < 4294967296):intC.ok n:=⟨show n.toNat < 256 ^ 4 by omega,Int.toNat_of_nonneg h.1⟩
theorem intC_enc {n:Int} (h:0≤n∧n < 4294967296):intC.enc n=numB (u32Z n).toNat 4:=by
 show numB n.toNat 4=_
 rw [UInt32.toNat_ofNat',Nat.mod_eq_of_lt (by omega)]
theorem flat_eq {α β:Type} {C:β→List UInt8} {f:α→List UInt8} {g:α→β} (h:∀x,C (g x)=f x) (l:List α):(l.map g).flatMap C=l.flatMap f:=by
 rw [List.flatMap_map]
 congr 1
 funext x
 exact h x
theorem staC_enc {x:Sta} (h:EncOk x):staC.enc (restP x.p)=staB x:=by
 show (intC.enc x.cfg.dep++(intC.enc x.cfg.stp++(intC.enc x.cfg.kep++(intC.enc x.cfg.ses++(intC.enc x.cfg.cap++intC.enc x.cfg.com)))))++(u32C.enc x.ht++(numB x.halt.toNat 1++(u32C.enc x.next++((numB (x.win.l.map Blk.p).length 1++(x.win.l.map Blk.p).flatMap (pckC N2 blkF).enc)++((numB x.ses.l.length 1++x.ses.l.flatMap sesC.enc)++((numB (x.blobs.l.map Blob.p).length 2++(x.blobs.l.map Blob.p).flatMap blobC.enc)++(numB ((x.jobs.l.map Job.p).map restJ).length 2++((x.jobs.l.map Job.p).map restJ).flatMap jobC.enc)))))))=_
 rw [intC_enc h.dep,intC_enc h.stp,intC_enc h.kep,intC_enc h.ses,intC_enc h.cap,intC_enc h.com,flat_eq winC_enc,flat_eq blobC_enc,List.map_map,flat_eq (g:=restJ∘Job.p) jobC_enc,List.length_map,List.length_map,List.length_map]
 rw [show x.ses.l.flatMap sesC.enc=x.ses.l.flatMap sesB by rw [show sesC.enc=sesB from funext sesC_enc]]
 unfold staB headB cfgL numsB
 simp [u32C_enc]
theorem staC_ok {x:Sta} (h:EncOk x):staC.ok (restP x.p):=by
 refine ⟨⟨⟨⟨intC_ok h.dep,intC_ok h.stp,intC_ok h.kep,intC_ok h.ses,intC_ok h.cap,intC_ok h.com⟩,rfl⟩,u32C_ok _,⟨show x.halt.toNat < 256 ^ 1 by have:=h.halt;omega,Int.toNat_of_nonneg h.halt.1⟩,u32C_ok _,⟨?_,?_⟩,⟨?_,fun y _=>sesC_ok y⟩,⟨?_,?_⟩,⟨?_,?_⟩⟩,rfl⟩
 ·show (x.win.l.map Blk.p).length < 256 ^ 1
  rw [List.length_map]
  have:=h.win.1
  omega
 ·intro y hy
  obtain ⟨b,hb,rfl⟩:=List.mem_map.1 (show y∈x.win.l.map Blk.p from hy)
  exact winC_ok b (h.win.2 b hb)
 ·show x.ses.l.length < 256 ^ 1
  have:=h.nses
  omega
 ·show (x.blobs.l.map Blob.p).length < 256 ^ 2
  rw [List.length_map]
  have:=h.blobs.1
  omega
 ·intro y hy
  obtain ⟨b,hb,rfl⟩:=List.mem_map.1 (show y∈x.blobs.l.map Blob.p from hy)
  exact blobC_ok b (h.blobs.2 b hb)
 ·show ((x.jobs.l.map Job.p).map restJ).length < 256 ^ 2
  rw [List.length_map,List.length_map]
  have:=h.jobs.1
  omega
 ·intro y hy
  obtain ⟨b,hb,rfl⟩:=List.mem_map.1 (show y∈(x.jobs.l.map Job.p).map restJ from hy)
  obtain ⟨j,hj,rfl⟩:=List.mem_map.1 hb
  exact jobC_ok j (h.jobs.2 j hj).1 (h.jobs.2 j hj).2
def staOf (a:StaP):Sta:=⟨a.cfg,a.ht,a.halt,a.next,⟨none,0,a.win.map fun b=>⟨b.hash,b.parent,⟨none,0,b.txs⟩⟩⟩,⟨none,0,a.ses⟩,⟨none,0,a.blobs.map fun b=>⟨b.key,b.hint,⟨none,0,b.bytes⟩⟩⟩,⟨none,0,a.jobs.map fun j=>⟨j.key,j.breach,j.height,j.mined,j.live,payOf j.tiers⟩⟩⟩
theorem staOf_p (a:StaP):(staOf a).p=a:=by
 unfold staOf Sta.p
 dsimp only
 rw [List.map_map,List.map_map,List.map_map]
 rw [show (Blk.p∘fun b:BlkP=>(⟨b.hash,b.parent,⟨none,0,b.txs⟩⟩:Blk))=id from rfl,show (Blob.p∘fun b:BlP=>(⟨b.key,b.hint,⟨none,0,b.bytes⟩⟩:Blob))=id from rfl,show (Job.p∘fun j:JobP=>(⟨j.key,j.breach,j.height,j.mined,j.live,payOf j.tiers⟩:Job))=id from funext fun j=>by
  unfold Job.p
  dsimp only [Function.comp]
  rw [payOf_tk]
  rfl,List.map_id,List.map_id,List.map_id]
theorem rightP_tk {p q:Payload} (h:p.l.map tk=q.l.map tk):rightP p=rightP q:=rightP_congr h
theorem rightS_congr {x y:Sta} (h:x.p=y.p):rightS x=rightS y:=by
 have h1:x.cfg=y.cfg:=congrArg StaP.cfg h
 have h2:x.ht=y.ht:=congrArg StaP.ht h
 have h3:x.halt=y.halt:=congrArg StaP.halt h
 have h4:x.next=y.next:=congrArg StaP.next h
 have h5:x.win.l.map Blk.p=y.win.l.map Blk.p:=congrArg StaP.win h
 have h6:x.ses.l=y.ses.l:=congrArg StaP.ses h
 have h7:x.blobs.l.map Blob.p=y.blobs.l.map Blob.p:=congrArg StaP.blobs h
 have h8:x.jobs.l.map Job.p=y.jobs.l.map Job.p:=congrArg StaP.jobs h
 have hw:x.win.l.length=y.win.l.length:=by have:=congrArg List.length h5;rwa [List.length_map,List.length_map] at this
 have hj:x.jobs.l.length=y.jobs.l.length:=by have:=congrArg List.length h8;rwa [List.length_map,List.length_map] at this
 have c1:chS x.cfg.dep x.ht x.win.l=chS y.cfg.dep y.ht y.win.l:=by
  unfold chS
  rw [h1,h2,hw,show winAt x.win.l=winAt y.win.l from funext fun i=>winAt_congr h5 i]
 have c2:jobS x.ht x.jobs.l=jobS y.ht y.jobs.l:=by
  unfold jobS
  rw [h2,hj]
  congr 1
  funext i
  have hg:(x.jobs.l[i]?).map Job.p=(y.jobs.l[i]?).map Job.p:=by rw [←List.getElem?_map,←List.getElem?_map,h8]
  have hk:(x.jobs.l.take i).map (·.key)=(y.jobs.l.take i).map (·.key):=by
   have e:∀l:List Job,(l.take i).map (·.key)=((l.map Job.p).take i).map (·.key):=fun l=>by rw [←List.map_take,List.map_map];rfl
   rw [e,e,h8]
  unfold jobAt
  rw [hk]
  cases hx:x.jobs.l[i]? with
  |none=>
   rw [hx] at hg
   rw [Option.map_eq_none_iff.1 hg.symm]
  |some u=>
   rw [hx] at hg
   obtain ⟨v,hv,he⟩:=Option.map_eq_some_iff.1 hg.symm
   rw [hv]
   dsimp only
   have e1:v.key=u.key:=congrArg JobP.key he
   have e2:v.height=u.height:=congrArg JobP.height he
   have e3:v.mined=u.mined:=congrArg JobP.mined he
   have e4:v.live=u.live:=congrArg JobP.live he
   have e5:v.pay.l.map tk=u.pay.l.map tk:=congrArg JobP.tiers he
   have e6:v.pay.l.length=u.pay.l.length:=by have:=congrArg List.length e5;rwa [List.length_map,List.length_map] at this
   unfold rightJ
   rw [e1,e2,e3,e4,e6,rightP_tk e5]
 unfold rightS
 rw [c1,c2,h1,h3,h4,h6,h7]
def rightSP (a:StaP):Bool:=rightS (staOf a)
theorem rightSP_eq (x:Sta):rightSP x.p=rightS x:=rightS_congr (staOf_p _)
def zeroP:StaP:=⟨⟨0,0,0,0,0,0⟩,0,0,0, [], [], [], []⟩
def decS (l:Byt):StaP×Int:=if 60000 < l.length then (zeroP,3) else match wholeD staC l with
 | .error e=>(zeroP,e)
 | .ok a=>if rightSP a=true then (a,0) else (zeroP,4)
theorem right_rest {x:Sta} (h:rightS x=true):rightSP (restP x.p)=true:=by
 obtain ⟨y,hy⟩:∃y:Sta,y={x with jobs:=⟨x.jobs.A,x.jobs.c,x.jobs.l.map fun j=>{j with live:= -1}⟩}:=⟨_,rfl⟩
 have hp:y.p=restP x.p:=by
  subst hy
  unfold Sta.p restP
  dsimp only
  rw [List.map_map,List.map_map]
  rfl
 rw [←hp,rightSP_eq]
 have hq:=h
 unfold rightS at hq ⊢
 simp only [Bool.and_eq_true] at hq ⊢
 obtain ⟨q1,q2,q3,q4,q5,q6⟩:=hq
 subst hy
 refine ⟨q1,q2,q3,q4,q5,?_⟩
 unfold jobS
 refine allR_yes fun i hi=>?_
 rw [List.length_map] at hi
 have h1:=allR_at q6 hi
 unfold jobAt at h1 ⊢
 dsimp only
 rw [List.getElem?_map]
 rw [List.getElem?_eq_getElem hi] at h1 ⊢
 dsimp only [Option.map_some] at h1 ⊢
 rw [←List.map_take,List.map_map]
 simp only [Bool.and_eq_true,decide_eq_true_eq] at h1 ⊢
 refine ⟨?_,h1.2⟩
 have h2:=h1.1
 unfold rightJ at h2 ⊢
 simp only [Bool.and_eq_true,decide_eq_true_eq] at h2 ⊢
 obtain ⟨g1,g2,g3,g4,g5⟩:=h2
 have:=(rightP_at g1).1
 exact ⟨g1,g2,by omega,by omega, .inr trivial⟩
theorem decS_enc {x:Sta} (h:rightS x=true) (hE:EncOk x) (hl:(staB x).length≤60000):decS (staB x)=(restP x.p,0):=by
 unfold decS
 rw [if_neg (by omega),←staC_enc hE,whole_mk staC (staC_ok hE)]
 dsimp only
 rw [if_pos (right_rest h)]
theorem decS_more {x:Sta} (hE:EncOk x) (b:UInt8):decS (staB x++ [b])=(zeroP,3):=by
 unfold decS
 split
 ·rfl
 ·rw [←staC_enc hE,whole_more staC (staC_ok hE)]
theorem decS_less {x:Sta} (hE:EncOk x) {l:Byt} {b:UInt8} (hl:l++ [b]=staB x) (h6:(staB x).length≤60000):decS l=(zeroP,2):=by
 have:=congrArg List.length hl
 rw [List.length_append] at this
 unfold decS
 rw [if_neg (by omega)]
 rw [←staC_enc hE] at hl
 rw [whole_less staC (staC_ok hE) hl]
end Go.Proofs.YtpbapnlnheahnaaGreatDoor
