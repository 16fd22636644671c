/- MImprintReads22: parts of the proof of ImprintReads: Dec4, RAt, SixPlc, HintIP2, HintIP3, SixId, HintHI2, HintHI3, Frz, BlkR, SeenI, Seen1, Rdx. No condition of their own. -/
import Derived.Test.YtpbapnlnheahnaaGreatDoorMImprintReads21
import Derived.Test.YtpbapnlnheahnaaGreatDoorMImprintReads13
import Derived.Test.YtpbapnlnheahnaaGreatDoorMImprintReads7
import Derived.Test.YtpbapnlnheahnaaGreatDoorMImprintReads16
import Derived.Test.YtpbapnlnheahnaaGreatDoorMImprintReads18
import Derived.Test.YtpbapnlnheahnaaGreatDoorMImprintReads10
import Derived.Test.YtpbapnlnheahnaaGreatDoorMImprintReads8
set_option linter.unusedSimpArgs false
set_option linter.unusedVariables false
namespace Go.Proofs.YtpbapnlnheahnaaGreatDoor
open Go.RowKit Go.Stop
set_option maxRecDepth 100000
set_option maxHeartbeats 500000
theorem Hp.outR {S:Nat→Prop} {w0 w:World} {r:Res} {L rs:List Res} (h:Hp S w0 w (star (r::L)::rs)):Hp S w0 w (star L::r::rs):=h.split1.perm (.swap ..)
theorem rdx_of {S:Nat→Prop} {pr pn pk b p:Nat} {q:Sl UInt8} {f:Flt} {w0 w:World} {rs:List Res} {t1 t2 t3:TypeId} (hp:Hp S w0 w (star (rdRs b q p f)::cel pr t1 #[ptr b]::cel pn t2 #[fnV pr]::cel pk t3 #[fkV pr]::rs)):RdX pr pn pk b p q f w:=
 have sep:=fun {r:Res} (hr:r∈_)=>(List.pairwise_cons.1 hp.sep).1 r hr
 have cl:∀{k:Nat} {t:TypeId} {v:Value},(cel k t #[v]).ok w→w.cell? ⟨k,0,none⟩=some v:=fun hc=>by
  have hok:=cel_ok.1 hc
  simp only [World.cell?,hok]
  rfl
 ⟨hp.ok _ (List.mem_cons_self ..),cl (hp.get (j:=1) rfl),cl (hp.get (j:=2) rfl),cl (hp.get (j:=3) rfl),
  fun hd=>sep (r:=cel pr t1 #[ptr b]) (by simp) pr hd (cel_dom.2 rfl),fun hd=>sep (r:=cel pn t2 #[fnV pr]) (by simp) pn hd (cel_dom.2 rfl),fun hd=>sep (r:=cel pk t3 #[fkV pr]) (by simp) pk hd (cel_dom.2 rfl)⟩
theorem rv_conv {α β γ:Type} {C:Cdc α} {f:α→β} {g:β→α} {hg:∀a,C.ok a→g (f a)=a} {f2:α→γ} {g2:γ→α} {hg2:∀a,C.ok a→g2 (f2 a)=a} {s:Rst} {x:β} (k:β→γ) (hk:∀a,C.ok a→f2 a=k (f a)) (h:Rv (rdR (mapC C f g hg).dec s) x):Rv (rdR (mapC C f2 g2 hg2).dec s) (k x):=fun a r he=>by
 cases s with
 |error e=>cases he
 |ok l=>
  have h:Rv (match C.dec l with| .error e=>.error e| .ok (a,r)=>.ok (f a,r)) x:=h
  have he:(match C.dec l with| .error e=>.error e| .ok (a,r)=>.ok (f2 a,r))=Except.ok (a,r):=he
  cases hd:C.dec l with
  |error e=>rw [hd] at he;cases he
  |ok u=>
   obtain ⟨u1,u2⟩:=u
   rw [hd] at he h
   cases he
   have h1:x=f u1:=h _ _ rfl
   rw [h1,hk _ (C.inv _ _ _ hd).1]
theorem rv_int {s:Rst} {x:UInt32} (h:Rv (rdR u32C.dec s) x):Rv (rdR intC.dec s) (x.toNat:Int):=
 rv_conv (fun x:UInt32=>(x.toNat:Int)) (fun a ha=>by
  have h2:a < 256 ^ 4:=ha
  rw [UInt32.toNat_ofNat_of_lt' (by simpa using h2)]
  rfl) h
theorem lft_int {s:Rst}:lft (rdR u32C.dec s)=lft (rdR intC.dec s):=(lft_map (C:=N4) (s:=s)).trans (lft_map (C:=N4) (s:=s)).symm
abbrev nxI (s:Rst):Rst:=lft (rdR intC.dec s)
def CfR (s:Rst):Nat→Cfg→Rst→Prop
 |0,c,s'=>c=⟨0,0,0,0,0,0⟩∧s'=s
 |1,c,s'=>∃x1,c=⟨x1,0,0,0,0,0⟩∧Rv (rdR intC.dec s) x1∧s'=nxI s
 |2,c,s'=>∃x1 x2,c=⟨x1,x2,0,0,0,0⟩∧Rv (rdR intC.dec s) x1∧Rv (rdR intC.dec (nxI s)) x2∧s'=nxI (nxI s)
 |3,c,s'=>∃x1 x2 x3,c=⟨x1,x2,x3,0,0,0⟩∧Rv (rdR intC.dec s) x1∧Rv (rdR intC.dec (nxI s)) x2∧Rv (rdR intC.dec (nxI (nxI s))) x3∧s'=nxI (nxI (nxI s))
 |4,c,s'=>∃x1 x2 x3 x4,c=⟨x1,x2,x3,x4,0,0⟩∧Rv (rdR intC.dec s) x1∧Rv (rdR intC.dec (nxI s)) x2∧Rv (rdR intC.dec (nxI (nxI s))) x3∧Rv (rdR intC.dec (nxI (nxI (nxI s)))) x4∧s'=nxI (nxI (nxI (nxI s)))
 |5,c,s'=>∃x1 x2 x3 x4 x5,c=⟨x1,x2,x3,x4,x5,0⟩∧Rv (rdR intC.dec s) x1∧Rv (rdR intC.dec (nxI s)) x2∧Rv (rdR intC.dec (nxI (nxI s))) x3∧Rv (rdR intC.dec (nxI (nxI (nxI s)))) x4∧Rv (rdR intC.dec (nxI (nxI (nxI (nxI s))))) x5∧s'=nxI (nxI (nxI (nxI (nxI s))))
 |6,c,s'=>Rv (rdR cfgC.dec s) c∧s'=lft (rdR cfgC.dec s)
 |_,_,_=>False
section
variable {b p : Nat} {q : Sl UInt8} {f : Flt} {s : Rst} {w0 : World}
theorem iread_any (hI:RdI q.l p (badE f) s) (hq:q.l.length≤1000000) (h:(star (rdRs b q p f)).ok w0):Calls Tryz.prog 21 #[ptr b] w0 fun e w'=>
  ∃(x:Sta) (p':Nat) (f':Flt),Rv (rdR staC.dec s) x.p∧RdI q.l p' (badE f') (lft (rdR staC.dec s))∧e= .returned x.v∧Mut (star (rdRs b q p f)) (star (star (staRs x)::rdRs b q p' f')) w0 w':=by
 have hp:=Hp.start1 h
 have u6:=Tryz.underlying128
 refine calls_x (args:= [_]) tabOk Tryz.func21 Tryz.ntmps21 Tryz.results21 rfl (Nat.le_of_ble_eq_true rfl) ?_
 ((conv=>whnf);repeat' (((with_reducible apply al_id);refine al_cel hp ?_;clear hp;intro bb w hp)<;>(conv=>whnf)))
 obtain ⟨b2,hb2⟩:∃b,b=bb:=⟨_,rfl⟩
 subst hb2
 obtain ⟨pr,hpr⟩:∃b,b=bb:=⟨_,rfl⟩
 subst hpr
 ((conv=>whnf);repeat' ((first|((with_reducible apply cn_id);refine cn rfl ?_)|((with_reducible apply al_id);refine al_cel hp ?_;clear hp;intro bb w hp)|((with_reducible apply st_id);apply sta_hs hp;(focus repeat' constructor);exact rfl;exact rfl;clear hp;intro w hp;(try dsimp only [List.set] at hp))|((with_reducible apply gen_id);(refine gen_mkf rfl (v:=fnV pr) rfl ?_)))<;>(conv=>whnf)))
 obtain ⟨pn,hpn⟩:∃b,b=bb:=⟨_,rfl⟩
 subst hpn
 ((conv=>whnf);repeat' ((first|((with_reducible apply cn_id);refine cn rfl ?_)|((with_reducible apply al_id);refine al_cel hp ?_;clear hp;intro bb w hp)|((with_reducible apply st_id);apply sta_hs hp;(focus repeat' constructor);exact rfl;exact rfl;clear hp;intro w hp;(try dsimp only [List.set] at hp))|((with_reducible apply gen_id);(refine gen_mkf rfl (v:=fkV pr) rfl ?_)))<;>(conv=>whnf)))
 obtain ⟨b5,hb5⟩:∃b,b=bb:=⟨_,rfl⟩
 subst hb5
 obtain ⟨pk,hpk⟩:∃b,b=bb:=⟨_,rfl⟩
 subst hpk
 replace hp:Hp (star (rdRs b q p f)).dom w0 w [star (rdRs b q p f),cel pr 63 #[ptr b],cel pn 123 #[fnV pr],cel pk 125 #[fkV pr],cel b5 31 (Sta.c ⟨⟨0,0,0,0,0,0⟩,0,0,0,Sl.nil,Sl.nil,Sl.nil,Sl.nil⟩).toArray,cel b2 31 (Sta.c Sta.z).toArray]:=hp.pick [5,4,2,1,0,3] (by decide) rfl
 ((conv=>whnf);repeat' ((first|((with_reducible apply gen_id);apply gen_build;exact rfl;exact rfl)|((with_reducible apply dr_id);refine dr_auto tabOk (by kernel_rfl) (by decide+kernel) ?_;(try replace hp:=hp.drew)))<;>(conv=>whnf)))
 refine lp_inv (α:=Nat×Cfg×Nat×Flt×Rst) (fun a=> [(1,ptr pr),(2,ptr b2),(3,ptr pn),(4,ptr pk),(5,ptr b5),(30, .agg #[.pointer (some ⟨b5,0,none⟩), .pointer (some ⟨b5,1,none⟩), .pointer (some ⟨b5,2,none⟩), .pointer (some ⟨b5,3,none⟩), .pointer (some ⟨b5,4,none⟩), .pointer (some ⟨b5,5,none⟩)]),(31,i64 a.1)]) (fun a w=>a.1≤6∧CfR s a.1 a.2.1 a.2.2.2.2∧RdI q.l a.2.2.1 (badE a.2.2.2.1) a.2.2.2.2∧Hp (star (rdRs b q p f)).dom w0 w [star (rdRs b q a.2.2.1 a.2.2.2.1),cel pr 63 #[ptr b],cel pn 123 #[fnV pr],cel pk 125 #[fkV pr],cel b5 31 (Sta.c ⟨a.2.1,0,0,0,Sl.nil,Sl.nil,Sl.nil,Sl.nil⟩).toArray,cel b2 31 (Sta.c Sta.z).toArray]) (fun a=>6 - a.1) (0,⟨0,0,0,0,0,0⟩,p,f,s) (by (repeat' (first|exact trivial|(refine ⟨rfl,?_⟩)))) ⟨Nat.zero_le _,⟨rfl,rfl⟩,hI,hp⟩ ?_
 clear hp hI
 rintro ⟨i,c,p1,f1,s1⟩ e0 w ⟨hi,hC,hI,hp⟩
 dsimp only at hi hC hI hp ⊢
 rcases Nat.lt_or_ge i 6 with hlt|hge
 ·have hcase:i=0∨i=1∨i=2∨i=3∨i=4∨i=5:=by omega
  rcases hcase with rfl|rfl|rfl|rfl|rfl|rfl
  ·obtain ⟨rfl,rfl⟩:=hC
   ((conv=>whnf);repeat' ((first|((with_reducible apply br_id);(with_reducible refine br_dec (fun hx=>?_) (fun hx=>?_))<;>(try (exfalso;first|omega|contradiction)))|((with_reducible apply ld_id);apply ld_hs hp;(focus repeat' constructor);exact rfl)|((with_reducible apply gen_id);(refine gen_arx (f:=fun z:Nat=>.pointer (some ⟨b5,z,none⟩)) (l:= [0,1,2,3,4,5]) rfl u6 rfl rfl rfl (by omega) 0 (by omega) rfl ?_)))<;>(conv=>whnf)))
   refine cl_eq (cd1_any hI hq (rdx_of hp)) rfl rfl ?_
   rintro r w ⟨y,p2,f2,hv,hI2,rfl,hm⟩
   replace hp:=hp.via (j:=0) rfl hm
   dsimp only [List.set] at hp
   clear hm
   refine ⟨_,rfl,?_⟩
   rw [lft_int] at hI2
   have hy32:y.toNat < 4294967296:=y.toNat_lt
   ((conv=>whnf);repeat' ((first|((with_reducible apply ar_id);first|(refine ar_n (1) (by omega) (by omega) ?_)|refine ar_i64 (by omega) ?_)|((with_reducible apply cn_id);refine cn rfl ?_)|((with_reducible apply st_id);apply st_hs hp;(focus repeat' constructor);exact rfl;exact rfl;clear hp;intro w hp;(try dsimp only [List.set] at hp)))<;>(conv=>whnf)))
   exact lp_next (1,(⟨(y.toNat:Int),0,0,0,0,0⟩:Cfg),p2,f2,_) (by show 6 - 1 < 6 - 0;omega) (by (repeat' (first|exact trivial|(refine ⟨rfl,?_⟩)))) ⟨by show 1≤6;omega,by show CfR _ 1 _ _;rw [CfR];exact ⟨_,rfl,rv_int hv,rfl⟩,hI2,hp⟩
  ·obtain ⟨x1,rfl,h1,rfl⟩:=hC
   ((conv=>whnf);repeat' ((first|((with_reducible apply br_id);(with_reducible refine br_dec (fun hx=>?_) (fun hx=>?_))<;>(try (exfalso;first|omega|contradiction)))|((with_reducible apply ld_id);apply ld_hs hp;(focus repeat' constructor);exact rfl)|((with_reducible apply gen_id);(refine gen_arx (f:=fun z:Nat=>.pointer (some ⟨b5,z,none⟩)) (l:= [0,1,2,3,4,5]) rfl u6 rfl rfl rfl (by omega) 1 (by omega) rfl ?_)))<;>(conv=>whnf)))
   refine cl_eq (cd1_any hI hq (rdx_of hp)) rfl rfl ?_
   rintro r w ⟨y,p2,f2,hv,hI2,rfl,hm⟩
   replace hp:=hp.via (j:=0) rfl hm
   dsimp only [List.set] at hp
   clear hm
   refine ⟨_,rfl,?_⟩
   rw [lft_int] at hI2
   have hy32:y.toNat < 4294967296:=y.toNat_lt
   ((conv=>whnf);repeat' ((first|((with_reducible apply ar_id);first|(refine ar_n (2) (by omega) (by omega) ?_)|refine ar_i64 (by omega) ?_)|((with_reducible apply cn_id);refine cn rfl ?_)|((with_reducible apply st_id);apply st_hs hp;(focus repeat' constructor);exact rfl;exact rfl;clear hp;intro w hp;(try dsimp only [List.set] at hp)))<;>(conv=>whnf)))
   exact lp_next (2,(⟨x1,(y.toNat:Int),0,0,0,0⟩:Cfg),p2,f2,_) (by show 6 - 2 < 6 - 1;omega) (by (repeat' (first|exact trivial|(refine ⟨rfl,?_⟩)))) ⟨by show 2≤6;omega,by show CfR _ 2 _ _;rw [CfR];exact ⟨_,_,rfl,h1,rv_int hv,rfl⟩,hI2,hp⟩
  ·obtain ⟨x1,x2,rfl,h1,h2,rfl⟩:=hC
   ((conv=>whnf);repeat' ((first|((with_reducible apply br_id);(with_reducible refine br_dec (fun hx=>?_) (fun hx=>?_))<;>(try (exfalso;first|omega|contradiction)))|((with_reducible apply ld_id);apply ld_hs hp;(focus repeat' constructor);exact rfl)|((with_reducible apply gen_id);(refine gen_arx (f:=fun z:Nat=>.pointer (some ⟨b5,z,none⟩)) (l:= [0,1,2,3,4,5]) rfl u6 rfl rfl rfl (by omega) 2 (by omega) rfl ?_)))<;>(conv=>whnf)))
   refine cl_eq (cd1_any hI hq (rdx_of hp)) rfl rfl ?_
   rintro r w ⟨y,p2,f2,hv,hI2,rfl,hm⟩
   replace hp:=hp.via (j:=0) rfl hm
   dsimp only [List.set] at hp
   clear hm
   refine ⟨_,rfl,?_⟩
   rw [lft_int] at hI2
   have hy32:y.toNat < 4294967296:=y.toNat_lt
   ((conv=>whnf);repeat' ((first|((with_reducible apply ar_id);first|(refine ar_n (3) (by omega) (by omega) ?_)|refine ar_i64 (by omega) ?_)|((with_reducible apply cn_id);refine cn rfl ?_)|((with_reducible apply st_id);apply st_hs hp;(focus repeat' constructor);exact rfl;exact rfl;clear hp;intro w hp;(try dsimp only [List.set] at hp)))<;>(conv=>whnf)))
   exact lp_next (3,(⟨x1,x2,(y.toNat:Int),0,0,0⟩:Cfg),p2,f2,_) (by show 6 - 3 < 6 - 2;omega) (by (repeat' (first|exact trivial|(refine ⟨rfl,?_⟩)))) ⟨by show 3≤6;omega,by show CfR _ 3 _ _;rw [CfR];exact ⟨_,_,_,rfl,h1,h2,rv_int hv,rfl⟩,hI2,hp⟩
  ·obtain ⟨x1,x2,x3,rfl,h1,h2,h3,rfl⟩:=hC
   ((conv=>whnf);repeat' ((first|((with_reducible apply br_id);(with_reducible refine br_dec (fun hx=>?_) (fun hx=>?_))<;>(try (exfalso;first|omega|contradiction)))|((with_reducible apply ld_id);apply ld_hs hp;(focus repeat' constructor);exact rfl)|((with_reducible apply gen_id);(refine gen_arx (f:=fun z:Nat=>.pointer (some ⟨b5,z,none⟩)) (l:= [0,1,2,3,4,5]) rfl u6 rfl rfl rfl (by omega) 3 (by omega) rfl ?_)))<;>(conv=>whnf)))
   refine cl_eq (cd1_any hI hq (rdx_of hp)) rfl rfl ?_
   rintro r w ⟨y,p2,f2,hv,hI2,rfl,hm⟩
   replace hp:=hp.via (j:=0) rfl hm
   dsimp only [List.set] at hp
   clear hm
   refine ⟨_,rfl,?_⟩
   rw [lft_int] at hI2
   have hy32:y.toNat < 4294967296:=y.toNat_lt
   ((conv=>whnf);repeat' ((first|((with_reducible apply ar_id);first|(refine ar_n (4) (by omega) (by omega) ?_)|refine ar_i64 (by omega) ?_)|((with_reducible apply cn_id);refine cn rfl ?_)|((with_reducible apply st_id);apply st_hs hp;(focus repeat' constructor);exact rfl;exact rfl;clear hp;intro w hp;(try dsimp only [List.set] at hp)))<;>(conv=>whnf)))
   exact lp_next (4,(⟨x1,x2,x3,(y.toNat:Int),0,0⟩:Cfg),p2,f2,_) (by show 6 - 4 < 6 - 3;omega) (by (repeat' (first|exact trivial|(refine ⟨rfl,?_⟩)))) ⟨by show 4≤6;omega,by show CfR _ 4 _ _;rw [CfR];exact ⟨_,_,_,_,rfl,h1,h2,h3,rv_int hv,rfl⟩,hI2,hp⟩
  ·obtain ⟨x1,x2,x3,x4,rfl,h1,h2,h3,h4,rfl⟩:=hC
   ((conv=>whnf);repeat' ((first|((with_reducible apply br_id);(with_reducible refine br_dec (fun hx=>?_) (fun hx=>?_))<;>(try (exfalso;first|omega|contradiction)))|((with_reducible apply ld_id);apply ld_hs hp;(focus repeat' constructor);exact rfl)|((with_reducible apply gen_id);(refine gen_arx (f:=fun z:Nat=>.pointer (some ⟨b5,z,none⟩)) (l:= [0,1,2,3,4,5]) rfl u6 rfl rfl rfl (by omega) 4 (by omega) rfl ?_)))<;>(conv=>whnf)))
   refine cl_eq (cd1_any hI hq (rdx_of hp)) rfl rfl ?_
   rintro r w ⟨y,p2,f2,hv,hI2,rfl,hm⟩
   replace hp:=hp.via (j:=0) rfl hm
   dsimp only [List.set] at hp
   clear hm
   refine ⟨_,rfl,?_⟩
   rw [lft_int] at hI2
   have hy32:y.toNat < 4294967296:=y.toNat_lt
   ((conv=>whnf);repeat' ((first|((with_reducible apply ar_id);first|(refine ar_n (5) (by omega) (by omega) ?_)|refine ar_i64 (by omega) ?_)|((with_reducible apply cn_id);refine cn rfl ?_)|((with_reducible apply st_id);apply st_hs hp;(focus repeat' constructor);exact rfl;exact rfl;clear hp;intro w hp;(try dsimp only [List.set] at hp)))<;>(conv=>whnf)))
   exact lp_next (5,(⟨x1,x2,x3,x4,(y.toNat:Int),0⟩:Cfg),p2,f2,_) (by show 6 - 5 < 6 - 4;omega) (by (repeat' (first|exact trivial|(refine ⟨rfl,?_⟩)))) ⟨by show 5≤6;omega,by show CfR _ 5 _ _;rw [CfR];exact ⟨_,_,_,_,_,rfl,h1,h2,h3,h4,rv_int hv,rfl⟩,hI2,hp⟩
  ·obtain ⟨x1,x2,x3,x4,x5,rfl,h1,h2,h3,h4,h5,rfl⟩:=hC
   ((conv=>whnf);repeat' ((first|((with_reducible apply br_id);(with_reducible refine br_dec (fun hx=>?_) (fun hx=>?_))<;>(try (exfalso;first|omega|contradiction)))|((with_reducible apply ld_id);apply ld_hs hp;(focus repeat' constructor);exact rfl)|((with_reducible apply gen_id);(refine gen_arx (f:=fun z:Nat=>.pointer (some ⟨b5,z,none⟩)) (l:= [0,1,2,3,4,5]) rfl u6 rfl rfl rfl (by omega) 5 (by omega) rfl ?_)))<;>(conv=>whnf)))
   refine cl_eq (cd1_any hI hq (rdx_of hp)) rfl rfl ?_
   rintro r w ⟨y,p2,f2,hv,hI2,rfl,hm⟩
   replace hp:=hp.via (j:=0) rfl hm
   dsimp only [List.set] at hp
   clear hm
   refine ⟨_,rfl,?_⟩
   rw [lft_int] at hI2
   have hy32:y.toNat < 4294967296:=y.toNat_lt
   ((conv=>whnf);repeat' ((first|((with_reducible apply ar_id);first|(refine ar_n (6) (by omega) (by omega) ?_)|refine ar_i64 (by omega) ?_)|((with_reducible apply cn_id);refine cn rfl ?_)|((with_reducible apply st_id);apply st_hs hp;(focus repeat' constructor);exact rfl;exact rfl;clear hp;intro w hp;(try dsimp only [List.set] at hp)))<;>(conv=>whnf)))
   exact lp_next (6,(⟨x1,x2,x3,x4,x5,(y.toNat:Int)⟩:Cfg),p2,f2,_) (by show 6 - 6 < 6 - 5;omega) (by (repeat' (first|exact trivial|(refine ⟨rfl,?_⟩)))) ⟨by show 6≤6;omega,by show CfR _ 6 _ _;rw [CfR];exact ⟨rv_map (rv_seq h1 (rv_seq h2 (rv_seq h3 (rv_seq h4 (rv_seq h5 (rv_int hv)))))),(lft_map.trans (lft_seq.trans (lft_seq.trans (lft_seq.trans (lft_seq.trans lft_seq))))).symm⟩,hI2,hp⟩
 ·obtain rfl:i=6:=by omega
  obtain ⟨hcv,hs1⟩:=hC
  ((conv=>whnf);repeat' (((with_reducible apply br_id);(with_reducible refine br_dec (fun hx=>?_) (fun hx=>?_))<;>(try (exfalso;first|omega|contradiction)))<;>(conv=>whnf)))
  refine dr_cut (fun e w=>∃(ht nx:UInt32) (N p2:Nat) (f2:Flt) (e0:Nat→Value),e=eat [(1,ptr pr),(2,ptr b2),(3,ptr pn),(4,ptr pk),(5,ptr b5)] ⟨e0, []⟩∧(Rv (rdR u32C.dec s1) ht∧Rv (rdR N1.dec (lft (rdR u32C.dec s1))) N∧Rv (rdR u32C.dec (lft (rdR N1.dec (lft (rdR u32C.dec s1))))) nx)∧RdI q.l p2 (badE f2) (lft (rdR u32C.dec (lft (rdR N1.dec (lft (rdR u32C.dec s1))))))∧Hp (star (rdRs b q p f)).dom w0 w [star (rdRs b q p2 f2),cel pr 63 #[ptr b],cel pn 123 #[fnV pr],cel pk 125 #[fkV pr],cel b5 31 (Sta.c ⟨c,ht,(N:Int),nx,Sl.nil,Sl.nil,Sl.nil,Sl.nil⟩).toArray,cel b2 31 (Sta.c Sta.z).toArray]) ?_ ?_
  ·refine dr_autoi [0,2,5] (fun w=>w.cell? ⟨pn,0,none⟩=some (fnV pr)∧w.cell? ⟨pr,0,none⟩=some (ptr b)) tabOk (by kernel_rfl) (by decide+kernel) rfl ⟨(rdx_of hp.drew).cn,(rdx_of hp.drew).cr⟩ ?_
   replace hp:=hp.drew
   ((conv=>whnf);repeat' ((first|((with_reducible apply ar_id);refine ar_i64 (by omega) ?_)|((with_reducible apply cn_id);first|(refine cn ⟨(rdx_of hp).cn,(rdx_of hp).cr⟩ ?_)|refine cn rfl ?_)|((with_reducible apply st_id);apply st_hs hp;(focus repeat' constructor);exact rfl;exact rfl;clear hp;intro w hp;(try dsimp only [List.set] at hp))|((with_reducible apply fk_id);refine fk_mk ?_ ?_)|((with_reducible apply cl_id);first|((refine cl_eq (cd1_any hI hq (rdx_of hp)) rfl rfl ?_;rintro r w ⟨y1,p2,f2,hv1,hI2,rfl,hm⟩;replace hp:=hp.via (j:=0) rfl hm;dsimp only [List.set] at hp;clear hm;refine ⟨_,rfl,?_⟩;refine cn ⟨(rdx_of hp).cn,(rdx_of hp).cr⟩ ?_))|((refine cl_eq (rnumI_any 1 N1 (fun _=>rfl) (by omega) hI2 hq (hp.get (j:=0) rfl)) rfl rfl ?_;rintro r w ⟨N,p3,f3,hv2,h256,hI3,rfl,hm⟩;replace hp:=hp.via (j:=0) rfl hm;dsimp only [List.set] at hp;clear hm;have hN:N < 256:=h256;clear h256;refine ⟨_,rfl,?_⟩;refine cn ⟨(rdx_of hp).cn,(rdx_of hp).cr⟩ ?_))|((refine cl_eq (cd1_any hI3 hq (rdx_of hp)) rfl rfl ?_;rintro r w ⟨y3,p4,f4,hv3,hI4,rfl,hm⟩;replace hp:=hp.via (j:=0) rfl hm;dsimp only [List.set] at hp;clear hm;refine ⟨_,rfl,?_⟩;refine cn ⟨(rdx_of hp).cn,(rdx_of hp).cr⟩ ?_)))|((with_reducible apply li_id);first|((refine li_of (fun w h=>h.1) ?_))|((refine li_of (fun w h=>h.2) ?_))))<;>(conv=>whnf)))
   all_goals exact ⟨y1,y3,N,p4,f4,_,eat_holds (by (repeat' (first|exact trivial|(refine ⟨rfl,?_⟩)))),⟨hv1,hv2,hv3⟩,hI4,hp⟩
  clear hp hI
  rintro e w ⟨ht,nx,N,p2,f2,e0,rfl,⟨hv1,hv2,hv3⟩,hI,hp⟩
  have hlh:∀s,lft (rdR N1.dec s)=lft (rdR haltC.dec s):=fun s=>lft_map.symm
  rw [hlh] at hv3 hI
  replace hv2:Rv (rdR haltC.dec (lft (rdR u32C.dec s1))) (N:Int):=rv_map hv2
  subst hs1
  ((conv=>whnf);repeat' ((first|((with_reducible apply ld_id);apply ld_hs hp;(focus repeat' constructor);exact rfl)|((with_reducible apply gen_id);(refine gen_mkf rfl (v:= .func (.func 68) #[] #[ptr pk,ptr pr]) rfl ?_)))<;>(conv=>whnf)))
  refine cl_eq (tk1_any hI hq (rdx_of hp)) rfl rfl ?_
  clear hI
  rintro r w ⟨W,p3,f3,hvW,hnW,hI,rfl,hm⟩
  replace hp:=hp.via (j:=0) rfl hm
  dsimp only [List.set] at hp
  clear hm
  refine ⟨_,rfl,?_⟩
  replace hp:=hp.outR.pick (rs':= [_,_,_,_,_,_,_]) [0,2,3,4,5,6,1] (by decide) rfl
  ((conv=>whnf);repeat' ((first|((with_reducible apply cn_id);refine cn rfl ?_)|((with_reducible apply ld_id);apply ld_hs hp;(focus repeat' constructor);exact rfl)|((with_reducible apply st_id);apply st_hs hp;(focus repeat' constructor);exact rfl;exact rfl;clear hp;intro w hp;(try dsimp only [List.set] at hp))|((with_reducible apply gen_id);(refine gen_mkf rfl (v:= .func (.func 73) #[] #[ptr pn]) rfl ?_)))<;>(conv=>whnf)))
  refine cl_eq (tk2_any hI hq (rdx_of hp)) rfl rfl ?_
  clear hI
  rintro r w ⟨S,p4,f4,hvS,hnS,hI,rfl,hm⟩
  replace hp:=hp.via (j:=0) rfl hm
  dsimp only [List.set] at hp
  clear hm
  refine ⟨_,rfl,?_⟩
  replace hp:=hp.outR.pick (rs':= [_,_,_,_,_,_,_,_]) [0,2,3,4,5,6,7,1] (by decide) rfl
  ((conv=>whnf);repeat' ((first|((with_reducible apply cn_id);refine cn rfl ?_)|((with_reducible apply ld_id);apply ld_hs hp;(focus repeat' constructor);exact rfl)|((with_reducible apply st_id);apply st_hs hp;(focus repeat' constructor);exact rfl;exact rfl;clear hp;intro w hp;(try dsimp only [List.set] at hp))|((with_reducible apply gen_id);(refine gen_mkf rfl (v:= .func (.func 75) #[] #[ptr pn,ptr pr,ptr pk]) rfl ?_)))<;>(conv=>whnf)))
  refine cl_eq (tk3_any hI hq (rdx_of hp)) rfl rfl ?_
  clear hI
  rintro r w ⟨V,p5,f5,hvV,hnV,hI,rfl,hm⟩
  replace hp:=hp.via (j:=0) rfl hm
  dsimp only [List.set] at hp
  clear hm
  refine ⟨_,rfl,?_⟩
  replace hp:=hp.outR.pick (rs':= [_,_,_,_,_,_,_,_,_]) [0,2,3,4,5,6,7,8,1] (by decide) rfl
  ((conv=>whnf);repeat' ((first|((with_reducible apply cn_id);refine cn rfl ?_)|((with_reducible apply ld_id);apply ld_hs hp;(focus repeat' constructor);exact rfl)|((with_reducible apply st_id);apply st_hs hp;(focus repeat' constructor);exact rfl;exact rfl;clear hp;intro w hp;(try dsimp only [List.set] at hp))|((with_reducible apply gen_id);(refine gen_mkf rfl (v:= .func (.func 78) #[] #[ptr pn,ptr pr,ptr pk]) rfl ?_)))<;>(conv=>whnf)))
  refine cl_eq (tk4_any hI hq (rdx_of hp)) rfl rfl ?_
  clear hI
  rintro r w ⟨J,p6,f6,hvJ,hnJ,hI,rfl,hm⟩
  replace hp:=hp.via (j:=0) rfl hm
  dsimp only [List.set] at hp
  clear hm
  refine ⟨_,rfl,?_⟩
  replace hp:=hp.outR.pick (rs':= [_,_,_,_,_,_,_,_,_,_]) [0,2,3,4,5,6,7,8,9,1] (by decide) rfl
  have hv:Rv (rdR staC.dec s) (Sta.p ⟨c,ht,N,nx,W,S,V,J⟩):=rv_map (rv_seq hcv (rv_seq hv1 (rv_seq hv2 (rv_seq hv3 (rv_seq hvW (rv_seq hvS (rv_seq hvV hvJ)))))))
  have hl:lft (rdR staC.dec s)=_:=lft_map.trans (lft_seq.trans (lft_seq.trans (lft_seq.trans (lft_seq.trans (lft_seq.trans (lft_seq.trans lft_seq))))))
  rw [←hl] at hI
  ((conv=>whnf);repeat' ((first|((with_reducible apply cn_id);refine cn rfl ?_)|((with_reducible apply ldn_id);apply lda_hs hp;(focus repeat' constructor);exact rfl)|((with_reducible apply st_id);first|(apply sta_hs hp;(focus repeat' constructor);exact rfl;exact rfl;clear hp;intro w hp;(try dsimp only [List.set] at hp))|(apply st_hs hp;(focus repeat' constructor);exact rfl;exact rfl;clear hp;intro w hp;(try dsimp only [List.set] at hp))))<;>(conv=>whnf)))
  exact ps_val (v':=Sta.v ⟨c,ht,N,nx,W,S,V,J⟩) rfl ⟨⟨c,ht,N,nx,W,S,V,J⟩,p6,f6,hv,hI,rfl,((hp.pick (rs':= [_,_,_,_,_]) [6,7,8,9,0] (by decide) rfl).fold 4).give⟩
end
set_option maxHeartbeats 2000000
structure RAt (B:Nat) (w:World) (L:Sl Blk):Prop where
 row:SlAt B w Blk.c 65 L
 tx:∀b∈L.l,SlAt B w Id.c 32 b.tx
theorem inoteIP {w0:World} {b m:Nat} {l:List (Id×Sl Plc)} {n:Int} (h:(star (iRsIP b m l n)).ok w0) (k:Id) (v:Plc) (hn:(idx l k).l.length≤100000) (hn2: -1000000≤n∧n≤1000000):Calls Tryz.prog 135 #[ptr b,Id.v k,Plc.v v] w0 fun e w'=>
  (v∈(idx l k).l∧e= .returned (.bool false)∧Chg N0 w0 w')∨(v∉(idx l k).l∧e= .returned (.bool true)∧∃s':Sl Plc,s'.l=(idx l k).l++ [v]∧Mut (star (iRsIP b m l n)) (star (iRsIP b m (mput l k s') (n+1))) w0 w'):=by
 have hI:=idxAt h
 by_cases hv:v∈(idx l k).l
 ·have hp:=Hp.start (S:=N0) w0
  have hhas:∀{w:World},Chg N0 w0 w→Calls Tryz.prog 155 #[ptr b,Id.v k,Plc.v v] w fun e w'=>e= .returned (.bool true)∧Chg N0 w w':=fun hc=>by
   have:=ihasIP ((star (iRsIP b m l n)).keep0 h hc) k v (by omega)
   rwa [decide_eq_true hv] at this
  refine calls_x (args:= [_,_,_]) tabOk Tryz.func135 Tryz.ntmps135 Tryz.results135 rfl (Nat.le_of_ble_eq_true rfl) ?_
  ((conv=>whnf);repeat' ((first|((with_reducible apply br_id);first|with_reducible refine br_t ?_|with_reducible refine br_f ?_)|((with_reducible apply ldn_id);apply lda_hs hp;(focus repeat' constructor);exact rfl)|((with_reducible apply al_id);refine al_cel hp ?_;clear hp;intro bb w hp)|((with_reducible apply cl_id);first|((refine cl_eq ((inoneIP (hp.chg.cell0 hI.c0))) rfl rfl ?_;rintro e w ⟨rfl,hcc⟩;replace hp:=hp.call0 hcc;refine ⟨_,rfl,?_⟩))|((refine cl_eq ((hhas hp.chg)) rfl rfl ?_;rintro e w ⟨rfl,hcc⟩;replace hp:=hp.call0 hcc;refine ⟨_,rfl,?_⟩))))<;>(conv=>whnf)))
  exact ps_val (v':= .bool false) rfl (.inl ⟨hv,rfl,hp.chg⟩)
 ·have hp:=Hp.open h
  have hhas:∀{w:World} {c:List Res},Hp (star (iRsIP b m l n)).dom w0 w (c++iRsIP b m l n)→Calls Tryz.prog 155 #[ptr b,Id.v k,Plc.v v] w fun e w'=>e= .returned (.bool false)∧Chg N0 w w':=fun {w c} hp=>by
   have h1:(star (iRsIP b m l n)).ok w:=(hp.sub (List.sublist_append_right c _)).fold1.get (j:=0) rfl
   have:=ihasIP h1 k v (by omega)
   rwa [decide_eq_false hv] at this
  have hkk:EqIs Tryz.prog 48 (Id.v k) (Id.v k) true:=by have:=eq_id k k;rwa [decide_eq_true rfl] at this
  have hbn:(if BinOp.neq=BinOp.eql then true else !true)=false:=rfl
  refine calls_x (args:= [_,_,_]) tabOk Tryz.func135 Tryz.ntmps135 Tryz.results135 rfl (Nat.le_of_ble_eq_true rfl) ?_
  ((conv=>whnf);repeat' ((first|((with_reducible apply br_id);first|(with_reducible refine br_0 hbn ?_)|with_reducible refine br_f ?_)|((with_reducible apply ldn_id);apply lda_hs hp;(focus repeat' constructor);exact rfl)|((with_reducible apply al_id);refine al_cel hp ?_;clear hp;intro bb w hp)|((with_reducible apply gen_id);(refine gen_eqa rfl rfl rfl hkk (by kernel_rfl) (.inr rfl) ?_))|((with_reducible apply cl_id);first|((refine cl_eq ((inoneIP (cell_of_heap (hp.cel_get (j:=2) rfl) rfl))) rfl rfl ?_;rintro e w ⟨rfl,hcc⟩;replace hp:=hp.call0 hcc;refine ⟨_,rfl,?_⟩))|((refine cl_eq ((hhas (c:= [_,_]) hp)) rfl rfl ?_;rintro e w ⟨rfl,hcc⟩;replace hp:=hp.call0 hcc;refine ⟨_,rfl,?_⟩))))<;>(conv=>whnf)))
  obtain ⟨rest,hp,hperm, -⟩:=idx_out (c:= [_,_]) k hp
  have hl1:=(hp.row (j:=0) rfl).le
  refine dr_autos [1,2,3,4] 13 tabOk (by kernel_rfl) (by decide+kernel) ?_
  replace hp:=hp.drew
  ((conv=>whnf);repeat' ((first|((with_reducible apply ar_id);refine ar_i64 (by omega) ?_)|((with_reducible apply cn_id);first|refine cn rfl ?_|refine cn (Chg.refl _ _) ?_)|((with_reducible apply ld_id);apply ld_hs hp;(focus repeat' constructor);exact rfl)|((with_reducible apply ldn_id);apply lda_hs hp;(focus repeat' constructor);exact rfl)|((with_reducible apply st_id);apply st_hs hp;(focus repeat' constructor);exact rfl;exact rfl;clear hp;intro w hp;(try dsimp only [List.set] at hp))|((with_reducible apply gen_id);first|((refine gen_bs rfl hp el_plc Plc.c [v] [Plc.v v] rfl rfl rfl (fun _ hh=>by simp at hh;subst hh;rfl) (by omega) ?_);clear hp;intro br w hp)|((refine gen_app (s:=idx l k) rfl hp 1 rfl el_plc rfl ⟨some ⟨br,0,none⟩,1, [v]⟩ rfl (hp.row (j:=0) rfl) (fun _ _=>rfl) plc_one (by simp only [List.length_cons,List.length_nil];omega) (by simp only [maxLen,List.length_cons,List.length_nil];omega) ?_);clear hp;intro A2 c2 w hp;dsimp only [List.set] at hp)|((refine gen_put rfl hp 5 rfl rfl idK Tryz.underlying250 k rfl (⟨A2,c2,(idx l k).l++ [v]⟩:Sl Plc) rfl ?_);clear hp;intro w hp;dsimp only [List.set] at hp))|((with_reducible apply fk_id);refine fk_mk ?_ ?_)|((with_reducible apply rd_id);(refine rd_look rfl hp 4 rfl rfl idK Tryz.underlying250 (z:=Sl.nil) rfl k rfl ?_)))<;>(conv=>whnf)))
  all_goals
   have hp3:=idx_back (l':=mput l k ⟨A2,c2,(idx l k).l++ [v]⟩) (c:= [_,_]) hp.tail (hperm ⟨A2,c2,(idx l k).l++ [v]⟩)
   exact ps_val (v':= .bool true) rfl (.inr ⟨hv,rfl,⟨A2,c2,(idx l k).l++ [v]⟩,rfl,hp3.shut (List.sublist_append_right _ _)⟩)
theorem inoteHI {w0:World} {b m:Nat} {l:List (Hint×Sl Id)} {n:Int} (h:(star (iRsHI b m l n)).ok w0) (k:Hint) (v:Id) (hn:(idx l k).l.length≤100000) (hn2: -1000000≤n∧n≤1000000):Calls Tryz.prog 136 #[ptr b,Hint.v k,Id.v v] w0 fun e w'=>
  (v∈(idx l k).l∧e= .returned (.bool false)∧Chg N0 w0 w')∨(v∉(idx l k).l∧e= .returned (.bool true)∧∃s':Sl Id,s'.l=(idx l k).l++ [v]∧Mut (star (iRsHI b m l n)) (star (iRsHI b m (mput l k s') (n+1))) w0 w'):=by
 have hI:=idxAt h
 by_cases hv:v∈(idx l k).l
 ·have hp:=Hp.start (S:=N0) w0
  have hhas:∀{w:World},Chg N0 w0 w→Calls Tryz.prog 157 #[ptr b,Hint.v k,Id.v v] w fun e w'=>e= .returned (.bool true)∧Chg N0 w w':=fun hc=>by
   have:=ihasHI ((star (iRsHI b m l n)).keep0 h hc) k v (by omega)
   rwa [decide_eq_true hv] at this
  refine calls_x (args:= [_,_,_]) tabOk Tryz.func136 Tryz.ntmps136 Tryz.results136 rfl (Nat.le_of_ble_eq_true rfl) ?_
  ((conv=>whnf);repeat' ((first|((with_reducible apply br_id);first|with_reducible refine br_t ?_|with_reducible refine br_f ?_)|((with_reducible apply ldn_id);apply lda_hs hp;(focus repeat' constructor);exact rfl)|((with_reducible apply al_id);refine al_cel hp ?_;clear hp;intro bb w hp)|((with_reducible apply cl_id);first|((refine cl_eq ((inoneHI (hp.chg.cell0 hI.c0))) rfl rfl ?_;rintro e w ⟨rfl,hcc⟩;replace hp:=hp.call0 hcc;refine ⟨_,rfl,?_⟩))|((refine cl_eq ((hhas hp.chg)) rfl rfl ?_;rintro e w ⟨rfl,hcc⟩;replace hp:=hp.call0 hcc;refine ⟨_,rfl,?_⟩))))<;>(conv=>whnf)))
  exact ps_val (v':= .bool false) rfl (.inl ⟨hv,rfl,hp.chg⟩)
 ·have hp:=Hp.open h
  have hhas:∀{w:World} {c:List Res},Hp (star (iRsHI b m l n)).dom w0 w (c++iRsHI b m l n)→Calls Tryz.prog 157 #[ptr b,Hint.v k,Id.v v] w fun e w'=>e= .returned (.bool false)∧Chg N0 w w':=fun {w c} hp=>by
   have h1:(star (iRsHI b m l n)).ok w:=(hp.sub (List.sublist_append_right c _)).fold1.get (j:=0) rfl
   have:=ihasHI h1 k v (by omega)
   rwa [decide_eq_false hv] at this
  have hkk:EqIs Tryz.prog 44 (Hint.v k) (Hint.v k) true:=by have:=eq_hint k k;rwa [decide_eq_true rfl] at this
  have hbn:(if BinOp.neq=BinOp.eql then true else !true)=false:=rfl
  refine calls_x (args:= [_,_,_]) tabOk Tryz.func136 Tryz.ntmps136 Tryz.results136 rfl (Nat.le_of_ble_eq_true rfl) ?_
  ((conv=>whnf);repeat' ((first|((with_reducible apply br_id);first|(with_reducible refine br_0 hbn ?_)|with_reducible refine br_f ?_)|((with_reducible apply ldn_id);apply lda_hs hp;(focus repeat' constructor);exact rfl)|((with_reducible apply al_id);refine al_cel hp ?_;clear hp;intro bb w hp)|((with_reducible apply gen_id);(refine gen_eqa rfl rfl rfl hkk (by kernel_rfl) (.inr rfl) ?_))|((with_reducible apply cl_id);first|((refine cl_eq ((inoneHI (cell_of_heap (hp.cel_get (j:=2) rfl) rfl))) rfl rfl ?_;rintro e w ⟨rfl,hcc⟩;replace hp:=hp.call0 hcc;refine ⟨_,rfl,?_⟩))|((refine cl_eq ((hhas (c:= [_,_]) hp)) rfl rfl ?_;rintro e w ⟨rfl,hcc⟩;replace hp:=hp.call0 hcc;refine ⟨_,rfl,?_⟩))))<;>(conv=>whnf)))
  obtain ⟨rest,hp,hperm, -⟩:=idx_out (c:= [_,_]) k hp
  have hl1:=(hp.row (j:=0) rfl).le
  refine dr_autos [1,2,3,4] 13 tabOk (by kernel_rfl) (by decide+kernel) ?_
  replace hp:=hp.drew
  ((conv=>whnf);repeat' ((first|((with_reducible apply ar_id);refine ar_i64 (by omega) ?_)|((with_reducible apply cn_id);first|refine cn rfl ?_|refine cn (Chg.refl _ _) ?_)|((with_reducible apply ld_id);apply ld_hs hp;(focus repeat' constructor);exact rfl)|((with_reducible apply ldn_id);apply lda_hs hp;(focus repeat' constructor);exact rfl)|((with_reducible apply st_id);apply st_hs hp;(focus repeat' constructor);exact rfl;exact rfl;clear hp;intro w hp;(try dsimp only [List.set] at hp))|((with_reducible apply gen_id);first|((refine gen_bs rfl hp el_id Id.c [v] [Id.v v] rfl rfl rfl (fun _ hh=>by simp at hh;subst hh;rfl) (by omega) ?_);clear hp;intro br w hp)|((refine gen_app (s:=idx l k) rfl hp 1 rfl el_id rfl ⟨some ⟨br,0,none⟩,1, [v]⟩ rfl (hp.row (j:=0) rfl) (fun _ _=>rfl) idL_one (by simp only [List.length_cons,List.length_nil];omega) (by simp only [maxLen,List.length_cons,List.length_nil];omega) ?_);clear hp;intro A2 c2 w hp;dsimp only [List.set] at hp)|((refine gen_put rfl hp 5 rfl rfl hintK Tryz.underlying253 k rfl (⟨A2,c2,(idx l k).l++ [v]⟩:Sl Id) rfl ?_);clear hp;intro w hp;dsimp only [List.set] at hp))|((with_reducible apply fk_id);refine fk_mk ?_ ?_)|((with_reducible apply rd_id);(refine rd_look rfl hp 4 rfl rfl hintK Tryz.underlying253 (z:=Sl.nil) rfl k rfl ?_)))<;>(conv=>whnf)))
  all_goals
   have hp3:=idx_back (l':=mput l k ⟨A2,c2,(idx l k).l++ [v]⟩) (c:= [_,_]) hp.tail (hperm ⟨A2,c2,(idx l k).l++ [v]⟩)
   exact ps_val (v':= .bool true) rfl (.inr ⟨hv,rfl,⟨A2,c2,(idx l k).l++ [v]⟩,rfl,hp3.shut (List.sublist_append_right _ _)⟩)
section
variable {α : Type} {P : Program} {S : Nat → Prop} {w0 w w' : World} {rs : List Res} {enc : α → List Value} {e t : TypeId} {sz bytes B j : Nat} {s s2 : Sl α} {ρ : Operand → Value} {o : Oper} {g : Value → World → Prop}
theorem SlAt.flat (h2:SlAt B w enc sz s2) (hl:∀x∈s2.l,(enc x).length=sz) (hsz:0 < sz) {ad:Addr} (hA:s2.A=some ad):∀j u,(s2.l.flatMap enc)[j]? =some u→w.cell? (ad.add j)=some u:=fun j u hj=>by
 have hne:s2.l≠ []:=fun e=>by rw [e] at hj;simp at hj
 obtain ⟨b,o,h3,_,h4⟩:=h2.row hne
 rw [hA] at h3
 cases h3
 rw [add_plain]
 have hjl:=(List.getElem?_eq_some_iff.1 hj).1
 rw [flat_len hl] at hjl
 have hq:j / sz < s2.l.length:=Nat.div_lt_of_lt_mul (by rw [Nat.mul_comm];exact hjl)
 have hx:=List.getElem?_eq_getElem hq
 have hlx:=hl _ (List.getElem_mem hq)
 have hr:j % sz < (enc s2.l[j / sz]).length:=by rw [hlx];exact Nat.mod_lt _ hsz
 have h5:=flat_at hl _ _ hx _ _ (List.getElem?_eq_getElem hr)
 have e1:j / sz*sz+j % sz=j:=Nat.div_add_mod' j sz
 rw [e1,hj] at h5
 cases h5
 have h6:=h4 _ _ hx _ _ (List.getElem?_eq_getElem hr)
 rwa [Nat.add_assoc,e1] at h6
end
section
variable {α : Type} {P : Program} {S : Nat → Prop} {w0 w w' : World} {rs : List Res} {enc : α → List Value} {e t : TypeId} {sz bytes B j : Nat} {s s2 : Sl α} {ρ : Operand → Value} {o : Oper}
def CutOk (e:TypeId) (sz:Nat) (enc:α→List Value) (s:Sl α) (w:World):Prop:=∃b cur fz,s.A=some ⟨b,0,none⟩∧w.heap[b]? =some (.cells cur e fz)∧(∀x∈s.l,(enc x).length=sz)∧s.c=s.l.length∧s.l.length≤maxLen∧cur.toList.take (s.l.length*sz)=s.l.flatMap enc
def cutR (e:TypeId) (sz:Nat) (enc:α→List Value) (s:Sl α):Res where
 dom b:=s.v.ownBlock=some b
 ok w:=(rowR e sz enc s).ok w∨CutOk e sz enc s w
 lt w h b hb:=by
  rcases h with h|⟨g,cur,fz,h1,h2,_⟩
  ·exact (rowR e sz enc s).lt w h b (rowR_dom.2 hb)
  ·rw [Sl.v,h1] at hb
   cases hb
   exact heap_lt h2
 loc w w' h hk:=by
  rcases hk with hk|⟨g,cur,fz,h1,h2,h3⟩
  ·exact .inl ((rowR e sz enc s).loc w w' (fun b hb=>h b (rowR_dom.1 hb)) hk)
  ·exact .inr ⟨g,cur,fz,h1,(h g (by rw [Sl.v,h1];rfl)).trans h2,h3⟩
theorem cutOk_at (h:CutOk e sz enc s w):SlAt w.heap.size w enc sz s:=by
 obtain ⟨b,cur,fz,h1,h2,h3,h4,h5,h6⟩:=h
 refine ⟨by omega,by omega,(fun hA=>by rw [h1] at hA;cases hA),fun _=>⟨b,0,h1,heap_lt h2,fun i x hi q v hq=>?_⟩⟩
 have h7:=flat_at h3 i x hi q v hq
 rw [←h6] at h7
 have hlt:i*sz+q < s.l.length*sz:=by
  have:=(List.getElem?_eq_some_iff.1 h7).1
  rw [List.length_take] at this
  omega
 rw [List.getElem?_take_of_lt hlt] at h7
 refine cell_of_heap h2 ?_
 rw [Nat.zero_add]
 simpa using h7
theorem cutR_at (h:(cutR e sz enc s).ok w):SlAt w.heap.size w enc sz s:=h.elim rowR_at cutOk_at
theorem Hp.cutAt (h:Hp S w0 w rs) (hj:rs[j]? =some (cutR e sz enc s)):SlAt w.heap.size w enc sz s:=cutR_at (h.get hj)
theorem Hp.toCut (h:Hp S w0 w rs) (hj:rs[j]? =some (rowR e sz enc s)):Hp S w0 w (rs.set j (cutR e sz enc s)):=h.mut hj (Chg.refl _ _) (.inl (h.get hj)) fun _ hb=>.inl (rowR_dom.2 hb)
theorem Hp.toRow (h:Hp S w0 w rs) (hj:rs[j]? =some (cutR e sz enc s)) (hr:(rowR e sz enc s).ok w):Hp S w0 w (rs.set j (rowR e sz enc s)):=h.mut hj (Chg.refl _ _) hr fun _ hb=>.inl (rowR_dom.1 hb)
theorem run_appc (hE:ElT P t e sz bytes) (ty:TypeId) {b1 o1:Nat} (hA1:s.A=some ⟨b1,o1,none⟩) (h1:SlAt B w enc sz s) (h2:SlAt B w enc sz s2) (hl1:∀x∈s.l,(enc x).length=sz) (hl2:∀x∈s2.l,(enc x).length=sz) (hn2:s2.l≠ []) (hc:s.c=s.l.length) (hb:(s.l.length+s2.l.length)*bytes≤140737488355328) (hn:s.l.length+s2.l.length≤maxLen):
  ∃A' c' w',(Builtin.append_ #[t,t] ty #[s.v,s2.v]).run P w= .ok (.slice A' (s.l++s2.l).length c') w'∧(rowR e sz enc ⟨A',c',s.l++s2.l⟩).ok w'∧Chg N0 w w'∧(∀b,(Sl.v (α:=α) ⟨A',c',s.l++s2.l⟩).ownBlock=some b→w.heap.size≤b):=by
 obtain ⟨ht,i,z,hi,hz,hs,hby,hzs,hsz⟩:=hE
 subst hs hby
 obtain ⟨b2,o2,hA2,_,_⟩:=h2.row hn2
 have hp2:0 < s2.l.length:=List.length_pos_iff.2 hn2
 have hsmall:s.l.length+s2.l.length≤9223372036854775807:=by simp only [maxLen] at hn;omega
 have hr:=run_append_grow (P:=P) w t ty e i z ht hi hz ⟨b1,o1,none⟩ s.l.length s.c (s.l.flatMap enc) (flat_len hl1) (h1.flat hl1 hsz hA1) ⟨b2,o2,none⟩ s2.l.length s2.c (s2.l.flatMap enc) (flat_len hl2) (h2.flat hl2 hsz hA2) (by omega) (by omega) (growslice_fits (by omega) hb)
 have hge:=grownCap_ge w (s.l.length+s2.l.length) s.c e
 have hcm:=grownCap_le_maxLen w (s.l.length+s2.l.length) s.c e hn
 have e1:s.v= .slice (some ⟨b1,o1,none⟩) s.l.length s.c:=by rw [Sl.v,hA1]
 have e2:s2.v= .slice (some ⟨b2,o2,none⟩) s2.l.length s2.c:=by rw [Sl.v,hA2]
 have e3:(s.l++s2.l).flatMap enc=s.l.flatMap enc++s2.l.flatMap enc:=List.flatMap_append
 have hfl:(s.l.flatMap enc++s2.l.flatMap enc).length=(s.l.length+s2.l.length)*i.size:=by rw [List.length_append,flat_len hl1,flat_len hl2,Nat.add_mul]
 rw [e1,e2]
 refine ⟨some ⟨w.heap.size,0,none⟩,grownCap w (s.l.length+s2.l.length) s.c e,_,by rw [List.length_append];exact hr,rowR_ok.2 ⟨⟨?_, .inr ⟨w.heap.size,grownCap w (s.l.length+s2.l.length) s.c e,_,rfl,Nat.zero_le _,heap_alloc_new w.drew _,by rw [List.length_append];exact hge,hcm,?_,?_⟩⟩,fun x hx=>?_⟩,((Chg.refl _ _).drew).alloc _,fun b hb=>?_⟩
 ·rw [e3,hfl,List.length_append]
 ·simp only [Array.size_append,List.size_toArray,size_zeroCells,hzs,flat_len hl1,flat_len hl2,←Nat.add_mul]
  congr 1
  omega
 ·rw [e3,List.length_append]
  simp only [Array.toList_append,List.append_assoc]
  rw [←List.append_assoc,←hfl]
  exact List.take_left
 ·rcases List.mem_append.1 hx with hx|hx
  ·exact hl1 x hx
  ·exact hl2 x hx
 ·simp only [Sl.v,Value.ownBlock,Option.some.injEq] at hb
  omega
theorem gen_appc {g:Value→World→Prop} {x y:Operand} (hop:o.op= .call {callee:= .builtin .append,args:= #[x,y],argTypes:= #[t,t]}) (h:Hp S w0 w rs) (hj:rs[j]? =some (cutR e sz enc s)) (hE:ElT P t e sz bytes) (hx:ρ x=s.v) (s2:Sl α) (hy:ρ y=s2.v) (h2:SlAt w.heap.size w enc sz s2) (hl2:∀x∈s2.l,(enc x).length=sz) (h1:∀x∈s2.l,∀v∈enc x,v.oneCell'=true) (hn2:s2.l≠ [])
  (hb:(s.l.length+s2.l.length)*bytes≤140737488355328) (hn:s.l.length+s2.l.length≤maxLen)
  (hk:∀A' c' w',Hp S w0 w' (rs.set j (cutR e sz enc ⟨A',c',s.l++s2.l⟩))→g (.slice A' (s.l++s2.l).length c') w'):Gen P ρ o w g:=by
 have hjl:=(List.getElem?_eq_some_iff.1 hj).1
 rcases h.get hj with hr|hc
 ·have hp:=h.toRow hj hr
  refine gen_app hop hp j (by rw [List.getElem?_set_self hjl]) hE hx s2 hy h2 hl2 h1 hb hn fun A' c' w' hp2=>hk A' c' w' ?_
  have hp3:=hp2.toCut (j:=j) (by rw [List.set_set,List.getElem?_set_self hjl])
  rwa [List.set_set,List.set_set] at hp3
 ·have hat:=cutOk_at hc
  obtain ⟨b,cur,fz,hA, -,hl1,hcc, -, -⟩:=hc
  obtain ⟨A',c',w',hrun,h3,h4,h5⟩:=run_appc hE o.type hA hat h2 hl1 hl2 hn2 hcc hb hn
  exact gen_v (by simp only [execOp,hop,resolve,invoke,builtin,Sem.run_bind,Sem.run_pure,Result.andThen_ok,List.map_toArray,List.map_cons,List.map_nil,hx,hy,hrun]) (hk A' c' w' (h.mut hj h4.of0 (.inl h3) fun b hb=>.inr (h5 b hb)))
end
theorem inotIP {w0:World} {b m:Nat} {l:List (Id×Sl Plc)} {n:Int} (h:(star (iRsIP b m l n)).ok w0) (k:Id) (v:Plc) (hn:(idx l k).l.length≤100000) (hn2: -1000000≤n∧n≤1000000):Calls Tryz.prog 135 #[ptr b,Id.v k,Plc.v v] w0 fun e w'=>
  ∃q,e= .returned (.bool q)∧∃l' n',n≤n'∧n'≤n+1∧(∀x,(idx l' x).l=if x=k∧v∉(idx l k).l then (idx l k).l++ [v] else (idx l x).l)∧Mut (star (iRsIP b m l n)) (star (iRsIP b m l' n')) w0 w':=by
 refine (inoteIP h k v hn hn2).mono fun e w' hh=>?_
 rcases hh with ⟨hv,rfl,hc⟩|⟨hv,rfl,s',hs',hm⟩
 ·exact ⟨_,rfl,l,n,by omega,by omega,fun x=>by rw [if_neg fun hh=>hh.2 hv],Mut.of0 h hc⟩
 ·refine ⟨_,rfl,mput l k s',n+1,by omega,by omega,fun x=>?_,hm⟩
  rw [idx_mput]
  by_cases hx:x=k
  ·rw [if_pos hx,if_pos ⟨hx,hv⟩];exact hs'
  ·rw [if_neg hx,if_neg fun hh=>hx hh.1]
theorem inotHI {w0:World} {b m:Nat} {l:List (Hint×Sl Id)} {n:Int} (h:(star (iRsHI b m l n)).ok w0) (k:Hint) (v:Id) (hn:(idx l k).l.length≤100000) (hn2: -1000000≤n∧n≤1000000):Calls Tryz.prog 136 #[ptr b,Hint.v k,Id.v v] w0 fun e w'=>
  ∃q,e= .returned (.bool q)∧∃l' n',n≤n'∧n'≤n+1∧(∀x,(idx l' x).l=if x=k∧v∉(idx l k).l then (idx l k).l++ [v] else (idx l x).l)∧Mut (star (iRsHI b m l n)) (star (iRsHI b m l' n')) w0 w':=by
 refine (inoteHI h k v hn hn2).mono fun e w' hh=>?_
 rcases hh with ⟨hv,rfl,hc⟩|⟨hv,rfl,s',hs',hm⟩
 ·exact ⟨_,rfl,l,n,by omega,by omega,fun x=>by rw [if_neg fun hh=>hh.2 hv],Mut.of0 h hc⟩
 ·refine ⟨_,rfl,mput l k s',n+1,by omega,by omega,fun x=>?_,hm⟩
  rw [idx_mput]
  by_cases hx:x=k
  ·rw [if_pos hx,if_pos ⟨hx,hv⟩];exact hs'
  ·rw [if_neg hx,if_neg fun hh=>hx hh.1]
abbrev snRs (b:Nat) (X:Snx):List Res:= [cel b 206 X.c.toArray,cutR 51 65 Blk.c X.bs,star (iRsIP X.bw X.mw X.lw X.nw),star (iRsHI X.bh X.mh X.lh X.nh)]
theorem snAt {S:Nat→Prop} {w0 w:World} {rs:List Res} {b:Nat} {X:Snx} (h:Hp S w0 w rs) (hs:(snRs b X).Sublist rs):SnAt w b X:=by
 have h2:=h.sub hs
 exact ⟨h2.cel_get (j:=0) rfl,idxAt (h2.get (j:=2) rfl),idxAt (h2.get (j:=3) rfl),h2.cutAt (j:=1) rfl⟩
theorem not_take {α:Type} {l:List α} {i:Nat} {x:α} (hd:l.Nodup) (hx:l[i]? =some x):x∉l.take i:=fun hm=>by
 have h1:l=l.take i++l.drop i:=(List.take_append_drop i l).symm
 rw [h1] at hd
 have h2:=(List.nodup_append.1 hd).2.2 x hm
 have h3:x∈l.drop i:=by
  refine List.mem_of_getElem? (i:=0) ?_
  rw [List.getElem?_drop]
  exact hx
 exact h2 x h3 rfl
theorem mem_take1 {α:Type} {l:List α} {i:Nat} {x y:α} (hx:l[i]? =some x):y∈l.take (i+1)↔y∈l.take i∨y=x:=by
 rw [List.take_add_one,hx]
 simp
theorem idxOf_nd {α:Type} [BEq α] [LawfulBEq α] {x:α} {l:List α} {i:Nat} (hd:l.Nodup) (hx:l[i]? =some x):l.idxOf x=i:=idxOf_at hx fun y hy e=>not_take hd hx (e▸hy)
end Go.Proofs.YtpbapnlnheahnaaGreatDoor
