/- MImprintBytes32: parts of the proof of ImprintBytes: Dec5, DecodeR, Rdr1, Rdr2, Blk3, Rdr3, Rdr4, Rdr5, Rdr6, Rdr7, Rdr8, Shelf4, Shelf5, Shelf6, Shelf7, Shelf8, Ref25, PayR. No condition of their own. -/
import Derived.Test.YtpbapnlnheahnaaGreatDoorMImprintBytes22
import Derived.Test.YtpbapnlnheahnaaGreatDoorMImprintBytes31
import Derived.Test.YtpbapnlnheahnaaGreatDoorMImprintBytes14
import Derived.Test.YtpbapnlnheahnaaGreatDoorMImprintBytes16
import Derived.Test.YtpbapnlnheahnaaGreatDoorMImprintBytes20
import Derived.Test.YtpbapnlnheahnaaGreatDoorMImprintBytes21
import Derived.Test.YtpbapnlnheahnaaGreatDoorMImprintBytes27
import Derived.Laws.OwnMore
import Derived.Test.YtpbapnlnheahnaaGreatDoorMImprintBytes23
import Derived.Test.YtpbapnlnheahnaaGreatDoorMImprintBytes13
set_option linter.unusedSimpArgs false
set_option linter.unusedVariables false
namespace Go.Proofs.YtpbapnlnheahnaaGreatDoor
open Go.RowKit Go.Stop
set_option maxRecDepth 100000
set_option maxHeartbeats 500000
theorem wh_end {α:Type} {C:Cdc α} {p:α→Bool} {z:α} {l:Byt} {x:α} (hv:Rv (C.dec l) x):(match wholeD C l with
  | .error e=>(z,e)
  | .ok a=>if p a=true then (a,(0:Int)) else (z,4))=if rdEnd (lft (C.dec l))=0 then (if p x=true then (x,0) else (z,4)) else (z,rdEnd (lft (C.dec l))):=by
 unfold wholeD
 cases hd:C.dec l with
 |error e=>exact (if_neg (C.err _ _ hd)).symm
 |ok u=>
  obtain ⟨u1,u2⟩:=u
  obtain rfl:=hv _ _ hd
  unfold lft rdEnd
  dsimp only
  by_cases hr:u2= []
  ·simp only [if_pos hr,if_true]
  ·simp only [if_neg hr]
   rfl
theorem decS_end {l:Byt} {x:StaP} (h6:l.length≤60000) (hv:Rv (staC.dec l) x):decS l=if rdEnd (lft (staC.dec l))=0 then (if rightSP x=true then (x,0) else (zeroP,4)) else (zeroP,rdEnd (lft (staC.dec l))):=by
 have h:=wh_end (p:=rightSP) (z:=zeroP) hv
 unfold decS
 rw [if_neg (by omega)]
 cases hw:wholeD staC l with
 |error e=>rw [hw] at h;exact h
 |ok a=>rw [hw] at h;exact h
theorem whole_end {l:Byt} {x:StaP} (hv:Rv (staC.dec l) x) (h0:rdEnd (lft (staC.dec l))=0):wholeD staC l= .ok x:=by
 unfold wholeD
 cases hd:staC.dec l with
 |error e'=>
  rw [hd] at h0
  exact absurd h0 (staC.err _ _ hd)
 |ok u=>
  obtain ⟨u1,u2⟩:=u
  rw [hd] at h0
  unfold lft rdEnd at h0
  dsimp only at h0 ⊢
  by_cases hn:u2= []
  ·rw [if_pos hn,hv _ _ hd]
  ·rw [if_neg hn] at h0
   cases h0
theorem live_dec {l:Byt} {x:Sta} (h:wholeD staC l= .ok x.p):∀j∈x.jobs.l,j.live= -1:=fun j hj=>by
 have h1:=(whole_inv staC h).1
 have h2:restJ j.p=j.p:=(h1.1.2.2.2.2.2.2.2.2 j.p (List.mem_map_of_mem hj)).2
 exact (congrArg JobP.live h2).symm
theorem Hp.zeroSta {S:Nat→Prop} {w0 w:World} {rs:List Res} (h:Hp S w0 w rs):Hp S w0 w (star (staRs Sta.z)::rs):=
 ((((((h.nilRow 59 38 Job.c).fold 1).nilRow 46 19 Blob.c).fold 1).nilRow 103 4 Sess.c).nilRow 51 65 Blk.c).fold 1 |>.fold 4
theorem idecode_any {B:Nat} {w0:World} {s:Sl UInt8} (h:SlAt B w0 u8L 1 s) (hn:s.l.length≤1000000) (hf:∀x:Sta,wholeD staC s.l= .ok x.p→FewI x):Calls Tryz.prog 10 #[s.v] w0 fun e w'=>∃x:Sta,x.p=(decS s.l).1∧e= .returned (.tuple #[x.v,i64 (decS s.l).2])∧Made (star (staRs x)) w0 w':=by
 have hp:=Hp.start (S:=N0) w0
 have hB:∀b,N0 b→B≤b:=fun _ hh=>hh.elim
 have u2:=Tryz.underlying34
 refine calls_x (args:= [_]) tabOk Tryz.func10 Tryz.ntmps10 Tryz.results10 rfl (Nat.le_of_ble_eq_true rfl) ?_
 ((conv=>whnf);repeat' ((first|((with_reducible apply br_id);(with_reducible refine br_dec (fun hx=>?_) (fun hx=>?_))<;>(try (exfalso;first|omega|contradiction)))|((with_reducible apply cn_id);refine cn rfl ?_)|((with_reducible apply ldn_id);apply lda_hs hp;(focus repeat' constructor);exact rfl)|((with_reducible apply al_id);refine al_cel hp ?_;clear hp;intro bb w hp)|((with_reducible apply st_id);apply sta_hs hp;(focus repeat' constructor);exact rfl;exact rfl;clear hp;intro w hp;(try dsimp only [List.set] at hp))|((with_reducible apply gen_id);first|(apply gen_build;exact rfl;exact rfl)|(apply gen_len;exact rfl;exact rfl;assumption)))<;>(conv=>whnf)))
 ·have hd:decS s.l=(zeroP,3):=by
   unfold decS
   rw [if_pos (by omega)]
  rw [hd]
  exact ps_val (v':= .tuple #[Sta.z.v,i64 3]) rfl ⟨Sta.z,rfl,rfl,hp.zeroSta.made1 (j:=0) rfl⟩
 obtain ⟨b2,hb2⟩:∃b,b=bb:=⟨_,rfl⟩
 subst hb2
 refine cl_of (rnew_any (h.keep hp.chg hB) hn) ?_
 rintro e w ⟨b,q,hq,rfl,hm⟩
 replace hp:=hp.add hm
 clear hm
 refine ⟨_,rfl,?_⟩
 have h6:q.l.length≤60000:=by rw [hq];omega
 rw [←hq] at hf ⊢
 clear hq hn h hx
 have hI:RdI q.l 0 (badE none) (.ok q.l):=⟨by omega, .inl ⟨rfl,rfl⟩⟩
 ((conv=>whnf))
 refine cl_eq (iread_any hI (by omega) (hp.get (j:=0) rfl)) rfl rfl ?_
 rintro r w ⟨x,p1,f1,hv,hI1,rfl,hm⟩
 replace hp:=hp.via (j:=0) rfl hm
 dsimp only [List.set] at hp
 clear hm
 refine ⟨_,rfl,?_⟩
 replace hp:=hp.outR
 have hv:Rv (staC.dec q.l) x.p:=hv
 have hI1:RdI q.l p1 (badE f1) (lft (staC.dec q.l)):=hI1
 have hd:=decS_end h6 hv
 have hw:=whole_end hv
 have hdone:=fun {w:World} (hc:(star (rdRs b q p1 f1)).ok w)=>rdoneI_any hI1 (by omega) hc
 obtain ⟨E,hE⟩:∃E,rdEnd (lft (staC.dec q.l))=E:=⟨_,rfl⟩
 rw [hE] at hd hw hdone
 rw [rightSP_eq] at hd
 clear hv hI1 hI hE
 obtain ⟨X,hX⟩:∃X:StaP×Int,decS q.l=X:=⟨_,rfl⟩
 rw [hX] at hd ⊢
 clear hX
 by_cases hE:E=0
 ·have hf:=hf x (hw hE)
  have hlv:=live_dec (hw hE)
  have hrt:=fun {w:World} {rs:List Res} (hp:Hp N0 w0 w rs) (hm:star (staRs x)∈rs)=>bright_any (hp.sta hm) (Nat.le_refl _) hf (fun j hj=>by rw [hlv j hj];decide)
  rw [if_pos hE] at hd
  subst hE
  clear hw
  obtain ⟨R,hR⟩:∃R,rightS x=R:=⟨_,rfl⟩
  rw [hR] at hd hrt
  ((conv=>whnf);repeat' ((first|((with_reducible apply br_id);first|with_reducible refine br_t ?_|with_reducible refine br_not ?_|((with_reducible refine br_eq (fun hx=>?_) (fun hx=>?_))<;>(try (exfalso;first|omega|contradiction)))|((with_reducible refine br_ne (fun hx=>?_) (fun hx=>?_))<;>(try (exfalso;first|omega|contradiction)))|((with_reducible refine br_s (fun hx=>?_) (fun hx=>?_))<;>(try (exfalso;first|omega|contradiction))))|((with_reducible apply cn_id);refine cn rfl ?_)|((with_reducible apply ldn_id);apply lda_hs hp;(focus repeat' constructor);exact rfl)|((with_reducible apply al_id);refine al_cel hp ?_;clear hp;intro bb w hp)|((with_reducible apply st_id);apply sta_hs hp;(focus repeat' constructor);exact rfl;exact rfl;clear hp;intro w hp;(try dsimp only [List.set] at hp))|((with_reducible apply gen_id);apply gen_build;exact rfl;exact rfl)|((with_reducible apply cl_id);first|((refine cl_eq ((hdone (hp.ok (star (rdRs b q p1 f1)) (by simp)))) rfl rfl ?_;rintro e w ⟨rfl,hcc⟩;replace hp:=hp.call0 hcc;refine ⟨_,rfl,?_⟩))|((refine cl_eq ((hrt hp (by simp))) rfl rfl ?_;rintro e w ⟨rfl,hcc⟩;replace hp:=hp.call0 hcc;refine ⟨_,rfl,?_⟩))))<;>(conv=>whnf)))
  ·rw [if_pos ‹_›] at hd
   subst hd
   exact ps_val (v':= .tuple #[x.v,i64 0]) rfl ⟨x,rfl,rfl,hp.made1 (j:=2) rfl⟩
  ·rw [if_neg (by rw [show R=false by assumption];decide)] at hd
   subst hd
   exact ps_val (v':= .tuple #[Sta.z.v,i64 4]) rfl ⟨Sta.z,rfl,rfl,hp.zeroSta.made1 (j:=0) rfl⟩
 ·rw [if_neg hE] at hd
  ((conv=>whnf);repeat' ((first|((with_reducible apply br_id);first|with_reducible refine br_f ?_|((with_reducible refine br_eq (fun hx=>?_) (fun hx=>?_))<;>(try (exfalso;first|omega|contradiction)))|((with_reducible refine br_ne (fun hx=>?_) (fun hx=>?_))<;>(try (exfalso;first|omega|contradiction))))|((with_reducible apply cn_id);refine cn rfl ?_)|((with_reducible apply ldn_id);apply lda_hs hp;(focus repeat' constructor);exact rfl)|((with_reducible apply al_id);refine al_cel hp ?_;clear hp;intro bb w hp)|((with_reducible apply st_id);apply sta_hs hp;(focus repeat' constructor);exact rfl;exact rfl;clear hp;intro w hp;(try dsimp only [List.set] at hp))|((with_reducible apply gen_id);apply gen_build;exact rfl;exact rfl)|((with_reducible apply cl_id);(refine cl_eq ((hdone (hp.ok (star (rdRs b q p1 f1)) (by simp)))) rfl rfl ?_;rintro e w ⟨rfl,hcc⟩;replace hp:=hp.call0 hcc;refine ⟨_,rfl,?_⟩)))<;>(conv=>whnf)))
  subst hd
  exact ps_val (v':= .tuple #[Sta.z.v,i64 E]) rfl ⟨Sta.z,rfl,rfl,hp.zeroSta.made1 (j:=0) rfl⟩
set_option maxHeartbeats 2000000
set_option maxHeartbeats 500000
section
variable {w0 : World} {p B : Nat} {q : Sl UInt8} {s : Rst}
end
section
variable {w0 : World} {p B : Nat} {q : Sl UInt8} {s : Rst}
end
set_option maxHeartbeats 2000000
theorem rightRef_any {B:Nat} {w0:World} {b:Blk} (h:SlAt B w0 Id.c 32 b.tx):Calls Tryz.prog 91 #[b.v] w0 fun e w'=>e= .returned (.bool (rightB b))∧Chg N0 w0 w':=by
 have hp:=Hp.start (S:=N0) w0
 have hB:∀b,N0 b→B≤b:=fun _ hh=>hh.elim
 have hmax:b.tx.l.length≤9223372036854775807:=by have:=h.le;have:=h.max;simp only [maxLen] at this;omega
 have u1:=Tryz.underlying49
 refine calls_x (args:= [_]) tabOk Tryz.func91 Tryz.ntmps91 Tryz.results91 rfl (Nat.le_of_ble_eq_true rfl) ?_
 ((conv=>whnf);repeat' (((with_reducible apply al_id);refine al_cel hp ?_;clear hp;intro bb w hp)<;>(conv=>whnf)))
 refine lp_inv (α:=Nat) (fun a=> [(1,ptr bb),(3,errno a)]) (fun a w=>a≤b.tx.l.length∧(b.tx.l.take a).Nodup∧Hp N0 w0 w [cel bb 51 b.c.toArray]) (fun a=>b.tx.l.length - a) 0 (by (repeat' (first|exact trivial|(refine ⟨rfl,?_⟩)))) ⟨by omega,by simp,hp⟩ ?_
 clear hp
 rintro i e0 w ⟨hi,hnd,hp⟩
 dsimp only at hi hnd hp ⊢
 rcases Nat.lt_or_ge i b.tx.l.length with hlt|hge
 ·obtain ⟨b1,o,x,hA,hb1,hrow,hxx⟩:=h.has hlt
  have htk:b.tx.l.take (i+1)=b.tx.l.take i++ [x]:=by rw [List.take_add_one,hxx];rfl
  ((conv=>whnf);repeat' ((first|((with_reducible apply br_id);(with_reducible refine br_dec (fun hx=>?_) (fun hx=>?_))<;>(try (exfalso;first|omega|contradiction)))|((with_reducible apply ld_id);apply ld_hs hp;(focus repeat' constructor);exact rfl)|((with_reducible apply gen_id);apply gen_len;exact rfl;exact rfl;assumption))<;>(conv=>whnf)))
  refine lp_inv (α:=Nat) (fun a=> [(1,ptr bb),(3,errno i),(4,errno a)]) (fun a w=>a≤i∧(∀y∈b.tx.l.take a,y≠x)∧Hp N0 w0 w [cel bb 51 b.c.toArray]) (fun a=>i - a) 0 (by (repeat' (first|exact trivial|(refine ⟨rfl,?_⟩)))) ⟨by omega,by simp,hp⟩ ?_
  clear hp
  rintro k e1 w ⟨hk,hne,hp⟩
  dsimp only at hk hne hp ⊢
  rcases Nat.lt_or_ge k i with hlt2|hge2
  ·have hyy:b.tx.l[k]? =some b.tx.l[k]:=List.getElem?_eq_getElem (by omega)
   generalize b.tx.l[k]=y at hyy
   ((conv=>whnf);repeat' ((first|((with_reducible apply br_id);first|((with_reducible refine br_dec (fun hx=>?_) (fun hx=>?_))<;>(try (exfalso;first|omega|contradiction)))|((with_reducible refine br_s (fun hx=>?_) (fun hx=>?_))<;>(try (exfalso;first|omega|contradiction))))|((with_reducible apply ar_id);refine ar_i64 (by omega) ?_)|((with_reducible apply ld_id);apply ld_hs hp;(focus repeat' constructor);exact rfl)|((with_reducible apply ldn_id);(refine ldn_rowx hp hB ‹_› ‹_› _ rfl ‹_› rfl ?_))|((with_reducible apply dr_id);refine dr_auto tabOk (by kernel_rfl) (by decide+kernel) ?_;(try replace hp:=hp.drew))|((with_reducible apply rd_id);first|(refine rd_ixs rfl rfl ‹_› rfl rfl (by omega) ?_)|(refine rd_eqa rfl rfl rfl (eq_id y x) (by kernel_rfl) (.inl rfl) ?_)))<;>(conv=>whnf)))
   ·refine ps_val (v':= .bool false) rfl ⟨?_,hp.chg⟩
    have hyx:y=x:=by simpa using hx
    have h1:rightB b=false:=by
     unfold rightB
     have:x∈b.tx.l.take i:=by
      rw [←hyx]
      refine List.mem_of_getElem? (i:=k) ?_
      rw [List.getElem?_take_of_lt hlt2,hyy]
     rw [decide_eq_false (dup_of hxx this),Bool.and_false]
    rw [h1]
   ·refine lp_next (k+1) ?_ (by (repeat' (first|exact trivial|(refine ⟨rfl,?_⟩)))) ⟨by omega,?_,hp⟩
    ·show i - (k+1) < i - k;omega
    ·intro z hz
     rw [List.take_add_one,hyy] at hz
     rcases List.mem_append.1 hz with hz|hz
     ·exact hne z hz
     ·simp at hz
      subst hz
      simpa using hx
  ·((conv=>whnf);repeat' ((first|((with_reducible apply br_id);(with_reducible refine br_dec (fun hx=>?_) (fun hx=>?_))<;>(try (exfalso;first|omega|contradiction)))|((with_reducible apply ar_id);refine ar_i64 (by omega) ?_))<;>(conv=>whnf)))
   obtain rfl:k=i:=by omega
   refine lp_next (k+1) ?_ (by (repeat' (first|exact trivial|(refine ⟨rfl,?_⟩)))) ⟨by omega,?_,hp⟩
   ·show b.tx.l.length - (k+1) < b.tx.l.length - k;omega
   ·rw [htk]
    exact nodup_next hnd fun hh=>hne x hh rfl
 ·rw [List.take_of_length_le hge] at hnd
  ((conv=>whnf);repeat' ((first|((with_reducible apply br_id);first|with_reducible refine br_t ?_|with_reducible refine br_f ?_|((with_reducible refine br_dec (fun hx=>?_) (fun hx=>?_))<;>(try (exfalso;first|omega|contradiction))))|((with_reducible apply ld_id);apply ld_hs hp;(focus repeat' constructor);exact rfl)|((with_reducible apply ldn_id);apply ldn_hs hp;(focus repeat' constructor);exact rfl;exact rfl)|((with_reducible apply gen_id);first|(refine gen_eqa rfl rfl rfl (eq_id b.hash b.parent) (by kernel_rfl) (.inr rfl) ?_)|(apply gen_len;exact rfl;exact rfl;assumption)))<;>(conv=>whnf)))
  ·refine ps_val (v':= .bool (!decide (b.hash=b.parent))) rfl ⟨?_,hp.chg⟩
   have h1:rightB b=(!decide (b.hash=b.parent)):=by
    unfold rightB
    rw [decide_eq_true hnd,Bool.and_true,decide_eq_true (show b.tx.l.length≤32 by omega),Bool.true_and]
   rw [h1]
  ·refine ps_val (v':= .bool false) rfl ⟨?_,hp.chg⟩
   have h1:rightB b=false:=by
    unfold rightB
    rw [decide_eq_false (show ¬b.tx.l.length≤32 by omega)]
    rfl
   rw [h1]
theorem same09_any {B:Nat} {w0:World} {s r:Sl Id} (h:SlAt B w0 Id.c 32 s) (h':SlAt B w0 Id.c 32 r):Calls Tryz.prog 122 #[s.v,r.v] w0 fun e w'=>e= .returned (.bool (decide (s.l=r.l)))∧Chg N0 w0 w':=by
 have hp:=Hp.start (S:=N0) w0
 have hB:∀b,N0 b→B≤b:=fun _ hh=>hh.elim
 have hmax:s.l.length≤9223372036854775807:=by have:=h.le;have:=h.max;simp only [maxLen] at this;omega
 have hmax':r.l.length≤9223372036854775807:=by have:=h'.le;have:=h'.max;simp only [maxLen] at this;omega
 have u1:=Tryz.underlying49
 refine calls_x (args:= [_,_]) tabOk Tryz.func122 Tryz.ntmps122 Tryz.results122 rfl (Nat.le_of_ble_eq_true rfl) ?_
 ((conv=>whnf);repeat' ((first|((with_reducible apply br_id);(with_reducible refine br_ne (fun hx=>?_) (fun hx=>?_))<;>(try (exfalso;first|omega|contradiction)))|((with_reducible apply gen_id);apply gen_len;exact rfl;exact rfl;assumption))<;>(conv=>whnf)))
 ·have hne:¬s.l=r.l:=fun e=>by rw [e] at hx;exact hx rfl
  refine ps_val (v':= .bool false) rfl ⟨?_,hp.chg⟩
  rw [decide_eq_false hne]
 have hll:s.l.length=r.l.length:=by omega
 refine lp_inv (α:=Nat) (fun a=> [(0,s.v),(1,r.v),(5,errno a)]) (fun a w=>a≤s.l.length∧s.l.take a=r.l.take a∧Chg N0 w0 w) (fun a=>s.l.length - a) 0 (by (repeat' (first|exact trivial|(refine ⟨rfl,?_⟩)))) ⟨by omega,by simp,hp.chg⟩ ?_
 clear hp
 rintro i e0 w ⟨hi,heq,hc⟩
 dsimp only at hi heq hc ⊢
 have hp:=(Hp.start (S:=N0) w0).call0 hc
 rcases Nat.lt_or_ge i s.l.length with hlt|hge
 ·obtain ⟨b,o,x,hA,hb,hrow,hxx⟩:=h.has hlt
  obtain ⟨b',o',x',hA',hb',hrow',hxx'⟩:=h'.has (i:=i) (by omega)
  ((conv=>whnf);repeat' ((first|((with_reducible apply br_id);first|((with_reducible refine br_dec (fun hx=>?_) (fun hx=>?_))<;>(try (exfalso;first|omega|contradiction)))|((with_reducible refine br_s (fun hx=>?_) (fun hx=>?_))<;>(try (exfalso;first|omega|contradiction))))|((with_reducible apply ar_id);refine ar_i64 (by omega) ?_)|((with_reducible apply ldn_id);first|(refine ldn_rowx hp hB hb hrow _ rfl hxx rfl ?_)|(refine ldn_rowx hp hB hb' hrow' _ rfl hxx' rfl ?_))|((with_reducible apply gen_id);apply gen_len;exact rfl;exact rfl;assumption)|((with_reducible apply dr_id);refine dr_auto tabOk (by kernel_rfl) (by decide+kernel) ?_;(try replace hp:=hp.drew))|((with_reducible apply rd_id);first|(refine rd_ixs rfl rfl hA rfl rfl (by omega) ?_)|(refine rd_ixs rfl rfl hA' rfl rfl (by omega) ?_)|(refine rd_eqa rfl rfl rfl (eq_id x x') (by kernel_rfl) (.inr rfl) ?_)))<;>(conv=>whnf)))
  ·have hne:¬s.l=r.l:=fun e=>by
    rw [e,hxx'] at hxx
    cases hxx
    simp at hx
   refine ps_val (v':= .bool false) rfl ⟨?_,hp.chg⟩
   rw [decide_eq_false hne]
  ·refine lp_next (i+1) ?_ (by (repeat' (first|exact trivial|(refine ⟨rfl,?_⟩)))) ⟨by omega,?_,hp.chg⟩
   ·show s.l.length - (i+1) < s.l.length - i;omega
   ·have hxe:x=x':=by simpa using hx
    rw [List.take_add_one,List.take_add_one,heq,hxx,hxx',hxe]
 ·((conv=>whnf);repeat' ((first|((with_reducible apply br_id);(with_reducible refine br_dec (fun hx=>?_) (fun hx=>?_))<;>(try (exfalso;first|omega|contradiction)))|((with_reducible apply gen_id);apply gen_len;exact rfl;exact rfl;assumption))<;>(conv=>whnf)))
  have he:s.l=r.l:=by
   rw [List.take_of_length_le hge,List.take_of_length_le (by omega)] at heq
   exact heq
  refine ps_val (v':= .bool true) rfl ⟨?_,hp.chg⟩
  rw [decide_eq_true he]
def sameBlk (a b:Blk):Bool:=decide (a.hash=b.hash) && (decide (a.parent=b.parent) && decide (a.tx.l=b.tx.l))
theorem sameBlk_any {B:Nat} {w0:World} {a b:Blk} (h:SlAt B w0 Id.c 32 a.tx) (h':SlAt B w0 Id.c 32 b.tx):Calls Tryz.prog 82 #[a.v,b.v] w0 fun e w'=>e= .returned (.bool (sameBlk a b))∧Chg N0 w0 w':=by
 have hp:=Hp.start (S:=N0) w0
 have hB:∀b,N0 b→B≤b:=fun _ hh=>hh.elim
 have u1:=Tryz.underlying49
 refine calls_x (args:= [_,_]) tabOk Tryz.func82 Tryz.ntmps82 Tryz.results82 rfl (Nat.le_of_ble_eq_true rfl) ?_
 ((conv=>whnf);repeat' ((first|((with_reducible apply br_id);first|with_reducible refine br_t ?_|with_reducible refine br_f ?_|((with_reducible refine br_s (fun hx=>?_) (fun hx=>?_))<;>(try (exfalso;first|omega|contradiction))))|((with_reducible apply ld_id);apply ld_hs hp;(focus repeat' constructor);exact rfl)|((with_reducible apply ldn_id);apply ldn_hs hp;(focus repeat' constructor);exact rfl;exact rfl)|((with_reducible apply al_id);refine al_cel hp ?_;clear hp;intro bb w hp)|((with_reducible apply gen_id);first|(refine gen_eqa rfl rfl rfl (eq_id a.hash b.hash) (by kernel_rfl) (.inl rfl) ?_)|(refine gen_eqa rfl rfl rfl (eq_id a.parent b.parent) (by kernel_rfl) (.inl rfl) ?_)))<;>(conv=>whnf)))
 ·refine cl_of (same09_any (h.keep hp.chg hB) (h'.keep hp.chg hB)) ?_
  rintro e w ⟨rfl,hc⟩
  replace hp:=hp.call0 hc
  refine ⟨_,rfl,?_⟩
  ((conv=>whnf);repeat' (((with_reducible apply br_id);with_reducible refine br_t ?_)<;>(conv=>whnf)))
  refine ps_val (v':= .bool (decide (a.tx.l=b.tx.l))) rfl ⟨?_,hp.chg⟩
  simp only [if_true,decide_eq_true_eq] at*
  simp [sameBlk, *]
 all_goals
  refine ps_val (v':= .bool false) rfl ⟨?_,hp.chg⟩
  simp only [if_true,decide_eq_true_eq,decide_eq_false_iff_not] at*
  simp [sameBlk, *]
set_option maxHeartbeats 500000
section
variable {w0 : World} {p B : Nat} {q : Sl UInt8} {s : Rst}
end
section
variable {w0 : World} {p B : Nat} {q : Sl UInt8} {s : Rst}
end
section
variable {w0 : World} {p B : Nat} {q : Sl UInt8} {s : Rst}
end
section
variable {w0 : World} {p B : Nat} {q : Sl UInt8} {s : Rst}
end
set_option maxHeartbeats 2000000
theorem key_ne {x k:Key} (h:¬x=k):¬((x.ses.toNat:Int)=k.ses.toNat∧(x.seq.toNat:Int)=k.seq.toNat):=fun ⟨h1,h2⟩=>h (by
 obtain ⟨a,b⟩:=x
 obtain ⟨e,f⟩:=k
 have h3:a=e:=UInt32.toNat_inj.1 (Int.ofNat.inj h1)
 have h4:b=f:=UInt32.toNat_inj.1 (Int.ofNat.inj h2)
 rw [h3,h4])
def fndK (L:List Blob) (k:Key):Option Nat:=L.findIdx? fun x=>decide (x.key=k)
def fndV (L:List Blob) (k:Key):Int:=match fndK L k with|some i=>i|none=> -1
theorem fndK_some {L:List Blob} {k:Key} {i:Nat} {x:Blob} (hi:L[i]? =some x) (hx:x.key=k) (h:∀(j:Nat) (y:Blob),j < i→L[j]? =some y→y.key≠k):fndK L k=some i:=by
 unfold fndK
 obtain ⟨h1,h2⟩:=List.getElem?_eq_some_iff.1 hi
 rw [List.findIdx?_eq_some_iff_getElem]
 refine ⟨h1,by rw [h2];simpa using hx,fun j hj=>?_⟩
 simpa using h j L[j] hj (List.getElem?_eq_getElem (by omega))
theorem fndK_none {L:List Blob} {k:Key} (h:∀(j:Nat) (y:Blob),L[j]? =some y→y.key≠k):fndK L k=none:=by
 unfold fndK
 rw [List.findIdx?_eq_none_iff]
 intro x hx
 obtain ⟨j,hj⟩:=List.getElem?_of_mem hx
 simpa using h j x hj
theorem fnd_mem (L:List Blob) (k:Key):(fndK L k).isSome=decide (k∈(L.map (·.p)).map (·.key)):=by
 unfold fndK
 rw [List.findIdx?_isSome,List.map_map,Bool.eq_iff_iff]
 simp only [List.any_eq_true,decide_eq_true_eq,List.mem_map]
 exact Iff.rfl
theorem rfind25_any {B:Nat} {w0:World} {l:Sl Blob} (h:SlAt B w0 Blob.c 19 l) (k:Key):Calls Tryz.prog 94 #[l.v,k.v] w0 fun e w'=>e= .returned (i64 (fndV l.l k))∧Chg N0 w0 w':=by
 have hp:=Hp.start (S:=N0) w0
 have hB:∀b,N0 b→B≤b:=fun _ hh=>hh.elim
 have us:=Tryz.underlying28
 have hmax:l.l.length≤9223372036854775807:=by have:=h.le;have:=h.max;simp only [maxLen] at this;omega
 refine calls_x (args:= [_,_]) tabOk Tryz.func94 Tryz.ntmps94 Tryz.results94 rfl (Nat.le_of_ble_eq_true rfl) ?_
 ((conv=>whnf);repeat' (((with_reducible apply al_id);refine al_cel hp ?_;clear hp;intro bb w hp)<;>(conv=>whnf)))
 obtain ⟨b3,hb3⟩:∃b3,b3=bb:=⟨_,rfl⟩
 subst hb3
 refine lp_inv (α:=Nat) (fun i=> [(0,l.v),(3,ptr b3),(5,i64 i)]) (fun i w=>i≤l.l.length∧(∀(j:Nat) (y:Blob),j < i→l.l[j]? =some y→y.key≠k)∧Hp N0 w0 w [cel b3 54 k.c.toArray]) (fun i=>l.l.length - i) 0 (by (repeat' (first|exact trivial|(refine ⟨rfl,?_⟩)))) ⟨by omega,fun j _ hj=>by omega,hp⟩ ?_
 clear hp
 rintro i e0 w ⟨hi,hno,hp⟩
 dsimp only at hi hno hp ⊢
 rcases Nat.lt_or_ge i l.l.length with hlt|hge
 ·obtain ⟨b1,o1,x,hA,hb1,hrow,hxx⟩:=h.has hlt
  by_cases hxk:x.key=k
  ·subst hxk
   ((conv=>whnf);repeat' ((first|((with_reducible apply br_id);first|with_reducible refine br_t ?_|((with_reducible refine br_dec (fun hx=>?_) (fun hx=>?_))<;>(try (exfalso;first|omega|contradiction)))|((with_reducible refine br_eq (fun hx=>?_) (fun hx=>?_))<;>(try (exfalso;first|omega|contradiction))))|((with_reducible apply ld_id);first|(refine ld_row hp hB ‹_› ‹_› _ _ rfl ‹_› (by rfl) ?_)|(apply ld_hs hp;(focus repeat' constructor);exact rfl))|((with_reducible apply gen_id);apply gen_len;exact rfl;exact rfl;assumption)|((with_reducible apply dr_id);refine dr_auto tabOk (by kernel_rfl) (by decide+kernel) ?_;(try replace hp:=hp.drew))|((with_reducible apply rd_id);(refine rd_ixs rfl rfl ‹_› rfl rfl (by omega) ?_)))<;>(conv=>whnf)))
   all_goals first
    |exact absurd rfl hx
    |exact ps_val (v':=i64 i) rfl ⟨by unfold fndV;rw [fndK_some hxx rfl hno],hp.chg⟩
  ·have hne:=key_ne hxk
   ((conv=>whnf);repeat' ((first|((with_reducible apply br_id);first|with_reducible refine br_t ?_|with_reducible refine br_f ?_|((with_reducible refine br_dec (fun hx=>?_) (fun hx=>?_))<;>(try (exfalso;first|omega|contradiction)))|((with_reducible refine br_eq (fun hx=>?_) (fun hx=>?_))<;>(try (exfalso;first|omega|contradiction))))|((with_reducible apply ar_id);refine ar_i64 (by omega) ?_)|((with_reducible apply ld_id);first|(refine ld_row hp hB ‹_› ‹_› _ _ rfl ‹_› (by rfl) ?_)|(apply ld_hs hp;(focus repeat' constructor);exact rfl))|((with_reducible apply gen_id);apply gen_len;exact rfl;exact rfl;assumption)|((with_reducible apply dr_id);refine dr_auto tabOk (by kernel_rfl) (by decide+kernel) ?_;(try replace hp:=hp.drew))|((with_reducible apply rd_id);(refine rd_ixs rfl rfl ‹_› rfl rfl (by omega) ?_)))<;>(conv=>whnf)))
   all_goals exact lp_next (i+1) (by show l.l.length - (i+1) < l.l.length - i;omega) (by (repeat' (first|exact trivial|(refine ⟨rfl,?_⟩)))) ⟨by show i+1≤_;omega,fun j y hj hy=>by
    rcases Nat.lt_or_ge j i with h1|h1
    ·exact hno j y h1 hy
    ·have:j=i:=by have:j < i+1:=hj;omega
     subst this
     rw [hxx] at hy
     cases hy
     exact hxk,hp⟩
 ·((conv=>whnf);repeat' ((first|((with_reducible apply br_id);(with_reducible refine br_dec (fun hx=>?_) (fun hx=>?_))<;>(try (exfalso;first|omega|contradiction)))|((with_reducible apply gen_id);apply gen_len;exact rfl;exact rfl;assumption))<;>(conv=>whnf)))
  exact ps_val (v':=i64 (-1)) rfl ⟨by unfold fndV;rw [fndK_none fun j y hy=>hno j y (by have:=(List.getElem?_eq_some_iff.1 hy).1;omega) hy],hp.chg⟩
theorem rright_any {B:Nat} {w0:World} {p:Payload} (h:PayAt B w0 p):Calls Tryz.prog 125 #[p.pv] w0 fun e w'=>e= .returned (.bool (rightP p))∧Chg N0 w0 w':=by
 have hp:=Hp.start (S:=N0) w0
 have hB:∀b,N0 b→B≤b:=fun _ hh=>hh.elim
 have u1:=Tryz.underlying55
 have u2:=Tryz.underlying34
 have hmax:p.l.length≤9223372036854775807:=by have:=h.row.le;have:=h.row.max;simp only [maxLen] at this;omega
 refine calls_x (args:= [_]) tabOk Tryz.func125 Tryz.ntmps125 Tryz.results125 rfl (Nat.le_of_ble_eq_true rfl) ?_
 ((conv=>whnf);repeat' (((with_reducible apply al_id);refine al_cel hp ?_;clear hp;intro bb w hp)<;>(conv=>whnf)))
 obtain ⟨b1,hb1⟩:∃b,b=bb:=⟨_,rfl⟩
 subst hb1
 refine lp_inv (α:=Nat) (fun i=> [(1,ptr b1),(3,i64 i)]) (fun i w=>i≤p.l.length∧(∀j,j < i→tierOk p.l j=true)∧Hp N0 w0 w [cel b1 57 #[p.v]]) (fun i=>p.l.length - i) 0 (by (repeat' (first|exact trivial|(refine ⟨rfl,?_⟩)))) ⟨by omega,fun j hj=>by omega,hp⟩ ?_
 clear hp
 rintro i e0 w ⟨hi,hall,hp⟩
 rcases Nat.lt_or_ge i p.l.length with hlt|hge
 ·obtain ⟨b,o,x,hA,hb,hrow,hxx⟩:=h.row.has hlt
  have hmem:=List.mem_of_getElem? hxx
  have hxm:x.tx.l.length≤9223372036854775807:=by have:=(h.tx x hmem).le;have:=(h.tx x hmem).max;simp only [maxLen] at this;omega
  have next:tierOk p.l i=true→∀j,j < i+1→tierOk p.l j=true:=fun ht j hj=>by
   rcases Nat.lt_or_ge j i with h1|h1
   ·exact hall j h1
   ·obtain rfl:j=i:=by omega
    exact ht
  cases i with
  |zero=>
   ((conv=>whnf);repeat' ((first|((with_reducible apply br_id);first|with_reducible refine br_t ?_|with_reducible refine br_f ?_|((with_reducible refine br_dec (fun hx=>?_) (fun hx=>?_))<;>(try (exfalso;first|omega|contradiction))))|((with_reducible apply ar_id);refine ar_i64 (by omega) ?_)|((with_reducible apply ld_id);first|(refine ld_row hp hB ‹_› ‹_› _ _ rfl ‹_› (by rfl) ?_)|(apply ld_hs hp;(focus repeat' constructor);exact rfl))|((with_reducible apply gen_id);first|(refine gen_ixs rfl rfl ‹_› rfl rfl (by omega) ?_)|(apply gen_len;exact rfl;exact rfl;assumption))|((with_reducible apply dr_id);refine dr_auto tabOk (by kernel_rfl) (by decide+kernel) ?_;(try replace hp:=hp.drew)))<;>(conv=>whnf)))
   all_goals first
    |(refine ps_val (v':= .bool false) rfl ⟨?_,hp.chg⟩
      rw [rightP_no hlt (by rw [tierOk_zero hxx,decide_eq_false (by omega)])])
    |exact lp_next 1 (by omega) (by (repeat' (first|exact trivial|(refine ⟨rfl,?_⟩)))) ⟨by omega,next (by rw [tierOk_zero hxx,decide_eq_true (by omega)]),hp⟩
  |succ k=>
   obtain ⟨y,hy⟩:∃y,p.l[k]? =some y:=⟨_,List.getElem?_eq_getElem (by omega)⟩
   ((conv=>whnf);repeat' ((first|((with_reducible apply br_id);first|with_reducible refine br_t ?_|with_reducible refine br_f ?_|((with_reducible refine br_dec (fun hx=>?_) (fun hx=>?_))<;>(try (exfalso;first|omega|contradiction))))|((with_reducible apply ar_id);first|(refine ar_n (k) (by omega) (by omega) ?_)|refine ar_i64 (by omega) ?_)|((with_reducible apply ld_id);first|(refine ld_row hp hB ‹_› ‹_› _ _ rfl ‹_› (by rfl) ?_)|(apply ld_hs hp;(focus repeat' constructor);exact rfl))|((with_reducible apply gen_id);first|(refine gen_ixs rfl rfl ‹_› rfl rfl (by omega) ?_)|(apply gen_len;exact rfl;exact rfl;assumption))|((with_reducible apply dr_id);refine dr_auto tabOk (by kernel_rfl) (by decide+kernel) ?_;(try replace hp:=hp.drew))|((with_reducible apply rd_id);(refine rd_ixs rfl rfl ‹_› rfl rfl (by omega) ?_)))<;>(conv=>whnf)))
   all_goals first
    |(refine ps_val (v':= .bool false) rfl ⟨?_,hp.chg⟩
      rw [rightP_no hlt (by rw [tierOk_succ hxx hy,decide_eq_false (by omega),Bool.false_and])])
    |(refine ps_val (v':= .bool false) rfl ⟨?_,hp.chg⟩
      rw [rightP_no hlt (by rw [tierOk_succ hxx hy,decide_eq_false (p:=y.fee.toNat < x.fee.toNat) (by omega),Bool.and_false])])
    |exact lp_next (k+1+1) (by omega) (by (repeat' (first|exact trivial|(refine ⟨rfl,?_⟩)))) ⟨by omega,next (by rw [tierOk_succ hxx hy,decide_eq_true (by omega),decide_eq_true (p:=y.fee.toNat < x.fee.toNat) (by omega)];rfl),hp⟩
 ·have hall2:(List.range p.l.length).all (tierOk p.l)=true:=by
   rw [List.all_eq_true]
   intro j hj
   exact hall j (by have:=List.mem_range.1 hj;omega)
  have hR:rightP p=decide (1≤p.l.length∧p.l.length≤8):=by unfold rightP;rw [hall2,Bool.and_true]
  rw [hR]
  by_cases h18:1≤p.l.length∧p.l.length≤8
  ·rw [decide_eq_true h18]
   ((conv=>whnf);repeat' ((first|((with_reducible apply br_id);first|with_reducible refine br_t ?_|((with_reducible refine br_dec (fun hx=>?_) (fun hx=>?_))<;>(try (exfalso;first|omega|contradiction))))|((with_reducible apply ld_id);apply ld_hs hp;(focus repeat' constructor);exact rfl)|((with_reducible apply gen_id);apply gen_len;exact rfl;exact rfl;assumption))<;>(conv=>whnf)))
   exact ps_val (v':= .bool true) (by show Value.bool (decide ((p.l.length:Int)≤8))=_;rw [decide_eq_true (by omega)]) ⟨rfl,hp.chg⟩
  ·rw [decide_eq_false h18]
   ((conv=>whnf);repeat' ((first|((with_reducible apply br_id);first|with_reducible refine br_t ?_|with_reducible refine br_f ?_|((with_reducible refine br_dec (fun hx=>?_) (fun hx=>?_))<;>(try (exfalso;first|omega|contradiction))))|((with_reducible apply ld_id);apply ld_hs hp;(focus repeat' constructor);exact rfl)|((with_reducible apply gen_id);apply gen_len;exact rfl;exact rfl;assumption))<;>(conv=>whnf)))
   all_goals first
    |exact ps_val (v':= .bool false) rfl ⟨rfl,hp.chg⟩
    |exact ps_val (v':= .bool false) (by show Value.bool (decide ((p.l.length:Int)≤8))=_;rw [decide_eq_false (by omega)]) ⟨rfl,hp.chg⟩
end Go.Proofs.YtpbapnlnheahnaaGreatDoor
