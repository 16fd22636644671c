/- MImprintBytes22: parts of the proof of ImprintBytes: Take, Dec4, RAt, SixPlc. No condition of their own. -/
import Derived.Test.YtpbapnlnheahnaaGreatDoorMImprintBytes21
import Derived.Test.YtpbapnlnheahnaaGreatDoorMImprintBytes7
import Derived.Test.YtpbapnlnheahnaaGreatDoorMImprintBytes8
import Derived.Test.YtpbapnlnheahnaaGreatDoorMImprintBytes16
import Derived.Test.YtpbapnlnheahnaaGreatDoorMImprintBytes18
set_option linter.unusedSimpArgs false
set_option linter.unusedVariables false
namespace Go.Proofs.YtpbapnlnheahnaaGreatDoor
open Go.RowKit Go.Stop
set_option maxRecDepth 100000
set_option maxHeartbeats 500000
theorem Hp.snocR {S:Nat→Prop} {w0 w:World} {a:Res} {L rs:List Res} (h:Hp S w0 w (a::star L::rs)):Hp S w0 w (star (L++ [a])::rs):=by
 have h1:=(h.perm (.swap ..)).unfold
 have h2:Hp S w0 w ((L++ [a])++rs):=by
  rw [List.append_assoc]
  exact h1
 have h3:=h2.fold (L++ [a]).length
 rw [List.take_left,List.drop_left] at h3
 exact h3
theorem Hp.foldR {S:Nat→Prop} {w0 w:World} {a:Res} {L rs:List Res} (h:Hp S w0 w (a::star L::rs)):Hp S w0 w (star (a::L)::rs):=by
 have h1:=((h.perm (.swap ..)).unfold).perm (List.perm_middle (l₁:=L))
 have h3:=h1.fold (L.length+1)
 rw [show (a::(L++rs)).take (L.length+1)=a::L by simp,show (a::(L++rs)).drop (L.length+1)=rs by simp] at h3
 exact h3
theorem Hp.nilStarR {S:Nat→Prop} {w0 w:World} {rs:List Res} (h:Hp S w0 w rs):Hp S w0 w (star []::rs):=h.fold 0
theorem ar_un9 {n:Int} (k:Nat) (h:n=k) (hk:k < 65536) {f:Int→Prop} (hf:f (k:Int)):Ar .u64 n f:=ar_u64 (by omega) (h▸hf)
theorem cod_z {s:Rst}:cod s=0∨cod s≠0:=by omega
section
variable {pr pn pk b p : Nat} {q : Sl UInt8} {f : Flt} {s : Rst} {w0 : World}
theorem tk1_any (hI:RdI q.l p (badE f) s) (hq:q.l.length≤1000000) (h:RdX pr pn pk b p q f w0):Calls Tryz.prog 67 #[ptr b,i64 1, .func (.func 68) #[] #[ptr pk,ptr pr]] w0 fun e w'=>
  ∃(x:Sl Blk) (p':Nat) (f':Flt),Rv (rdR (lstC N1 (pckC N2 blkF)).dec s) (x.l.map Blk.p)∧x.l.length < 256∧RdI q.l p' (badE f') (lft (rdR (lstC N1 (pckC N2 blkF)).dec s))∧e= .returned x.v∧Mut (star (rdRs b q p f)) (star (star (winRs x)::rdRs b q p' f')) w0 w':=by
 have hp:=Hp.start1 h.ok
 refine calls_x (args:= [_,_,_]) tabOk Tryz.func67 Tryz.ntmps67 Tryz.results67 rfl (Nat.le_of_ble_eq_true rfl) ?_
 ((conv=>whnf))
 refine cl_eq (rnumI_any 1 N1 (fun _=>rfl) (by omega) hI hq (hp.get (j:=0) rfl)) rfl rfl ?_
 rintro r w ⟨n,p1,f1,hvn,hn,hI1,rfl,hm⟩
 replace hp:=hp.via (j:=0) rfl hm
 dsimp only [List.set] at hp
 clear hm
 refine ⟨_,rfl,?_⟩
 have hn:n < 256:=hn
 ((conv=>whnf))
 refine lp_inv (α:=Nat×Sl Blk×Nat×Flt×Rst) (fun a=> [(0,ptr b),(2, .func (.func 68) #[] #[ptr pk,ptr pr]),(7,a.2.1.v),(8, .int .u64 a.1)]) (fun a w=>a.2.1.l.length+a.1=n∧RpI (pckC N2 blkF) n (lft (rdR N1.dec s)) a.1 a.2.2.2.2 (a.2.1.l.map Blk.p)∧RdI q.l a.2.2.1 (badE a.2.2.2.1) a.2.2.2.2∧Hp (star (rdRs b q p f)).dom w0 w [rowR 51 65 Blk.c a.2.1,star (a.2.1.l.map btxR),star (rdRs b q a.2.2.1 a.2.2.2.1)]) (fun a=>a.1) (n,Sl.nil,p1,f1,lft (rdR N1.dec s)) (by (repeat' (first|exact trivial|(refine ⟨rfl,?_⟩)))) ⟨by show 0+n=n;omega,RpI.start,hI1,((hp.nilStarR).nilRow 51 65 Blk.c)⟩ ?_
 clear hp hI hI1
 rintro ⟨k,out,p1,f1,s1⟩ e0 w ⟨hk,hr,hI,hp⟩
 dsimp only at hk hr hI hp ⊢
 have he:=fun {w:World} (hc:(star (rdRs b q p1 f1)).ok w)=>rerrI_any hI hc
 rcases Nat.eq_zero_or_pos k with rfl|hpos
 ·obtain ⟨hl,hv⟩:=hr.stop (.inl rfl)
  have hv:=rv_lst hvn hv
  have hl:=(lft_lst (C:=pckC N2 blkF) hvn).trans hl
  rw [←hl] at hI
  ((conv=>whnf);repeat' (((with_reducible apply br_id);first|with_reducible refine br_f ?_|((with_reducible refine br_dec (fun hx=>?_) (fun hx=>?_))<;>(try (exfalso;first|omega|contradiction))))<;>(conv=>whnf)))
  exact ps_val (v':=out.v) rfl ⟨out,p1,f1,hv,by omega,hI,rfl,hp.foldR.give⟩
 rcases cod_z (s:=s1) with hz|hz
 ·obtain ⟨k,rfl⟩:∃k',k=k'+1:=⟨k - 1,by omega⟩
  ((conv=>whnf);repeat' ((first|((with_reducible apply br_id);first|with_reducible refine br_t ?_|((with_reducible refine br_dec (fun hx=>?_) (fun hx=>?_))<;>(try (exfalso;first|omega|contradiction)))|((with_reducible refine br_eq (fun hx=>?_) (fun hx=>?_))<;>(try (exfalso;first|omega|contradiction))))|((with_reducible apply cl_id);(refine cl_eq ((he (hp.ok (star (rdRs b q p1 f1)) (by simp)))) rfl rfl ?_;rintro e w ⟨rfl,hcc⟩;replace hp:=hp.call0 hcc;refine ⟨_,rfl,?_⟩)))<;>(conv=>whnf)))
  refine cl_eq (cd3_any hI hq (h.via hp (by simp))) rfl rfl ?_
  rintro r w ⟨x,p2,f2,hv,hx32,hI2,rfl,hm⟩
  replace hp:=hp.via (j:=2) rfl hm
  dsimp only [List.set] at hp
  clear hm
  refine ⟨_,rfl,?_⟩
  have hr2:=hr.next hv
  replace hp:=((hp.pick (rs':= [_,_,_]) [2,1,0] (by decide) rfl).split1.pick (rs':= [_,_,_,_]) [0,2,3,1] (by decide) rfl).snocR
  rw [show out.l.map btxR++ [btxR x]=(out.l++ [x]).map btxR by rw [List.map_append];rfl] at hp
  ((conv=>whnf);repeat' ((first|((with_reducible apply ar_id);(refine ar_un9 k (by omega) (by omega) ?_))|((with_reducible apply gen_id);first|((refine gen_bs rfl hp el_blkR Blk.c [x] [Blk.v x] rfl rfl rfl (fun _ hh=>by simp at hh;subst hh;rfl) (by omega) ?_);clear hp;intro br w hp)|((refine gen_app (s:=out) rfl hp 2 rfl el_blkR rfl ⟨some ⟨br,0,none⟩,1, [x]⟩ rfl (hp.row (j:=0) rfl) (fun _ _=>rfl) blk_oneR (by simp only [List.length_cons,List.length_nil];omega) (by simp only [maxLen,List.length_cons,List.length_nil];omega) ?_);clear hp;intro A2 c2 w hp;dsimp only [List.set] at hp)))<;>(conv=>whnf)))
  exact lp_next (k,(⟨A2,c2,out.l++ [x]⟩:Sl Blk),p2,f2,lft (rdR (pckC N2 blkF).dec s1)) (by show k < k+1;omega) (by (repeat' (first|exact trivial|(refine ⟨rfl,?_⟩)))) ⟨by show (out.l++ [x]).length+k=n;rw [List.length_append];simp only [List.length_cons,List.length_nil];omega,by rw [List.map_append];exact hr2,hI2,hp.tail.pick [1,0,2] (by decide) rfl⟩
 ·obtain ⟨hl,hv⟩:=hr.stop (.inr hz)
  have hv:=rv_lst hvn hv
  have hl:=(lft_lst (C:=pckC N2 blkF) hvn).trans hl
  rw [←hl] at hI
  ((conv=>whnf);repeat' ((first|((with_reducible apply br_id);first|with_reducible refine br_t ?_|((with_reducible refine br_dec (fun hx=>?_) (fun hx=>?_))<;>(try (exfalso;first|omega|contradiction)))|((with_reducible refine br_eq (fun hx=>?_) (fun hx=>?_))<;>(try (exfalso;first|omega|contradiction))))|((with_reducible apply cl_id);(refine cl_eq ((he (hp.ok (star (rdRs b q p1 f1)) (by simp)))) rfl rfl ?_;rintro e w ⟨rfl,hcc⟩;replace hp:=hp.call0 hcc;refine ⟨_,rfl,?_⟩)))<;>(conv=>whnf)))
  exact ps_val (v':=out.v) rfl ⟨out,p1,f1,hv,by omega,hI,rfl,hp.foldR.give⟩
theorem tk2_any (hI:RdI q.l p (badE f) s) (hq:q.l.length≤1000000) (h:RdX pr pn pk b p q f w0):Calls Tryz.prog 72 #[ptr b,i64 1, .func (.func 73) #[] #[ptr pn]] w0 fun e w'=>
  ∃(x:Sl Sess) (p':Nat) (f':Flt),Rv (rdR (lstC N1 (sesC)).dec s) x.l∧x.l.length < 256∧RdI q.l p' (badE f') (lft (rdR (lstC N1 (sesC)).dec s))∧e= .returned x.v∧Mut (star (rdRs b q p f)) (star (sesR x::rdRs b q p' f')) w0 w':=by
 have hp:=Hp.start1 h.ok
 refine calls_x (args:= [_,_,_]) tabOk Tryz.func72 Tryz.ntmps72 Tryz.results72 rfl (Nat.le_of_ble_eq_true rfl) ?_
 ((conv=>whnf))
 refine cl_eq (rnumI_any 1 N1 (fun _=>rfl) (by omega) hI hq (hp.get (j:=0) rfl)) rfl rfl ?_
 rintro r w ⟨n,p1,f1,hvn,hn,hI1,rfl,hm⟩
 replace hp:=hp.via (j:=0) rfl hm
 dsimp only [List.set] at hp
 clear hm
 refine ⟨_,rfl,?_⟩
 have hn:n < 256:=hn
 ((conv=>whnf))
 refine lp_inv (α:=Nat×Sl Sess×Nat×Flt×Rst) (fun a=> [(0,ptr b),(2, .func (.func 73) #[] #[ptr pn]),(7,a.2.1.v),(8, .int .u64 a.1)]) (fun a w=>a.2.1.l.length+a.1=n∧RpI (sesC) n (lft (rdR N1.dec s)) a.1 a.2.2.2.2 a.2.1.l∧RdI q.l a.2.2.1 (badE a.2.2.2.1) a.2.2.2.2∧Hp (star (rdRs b q p f)).dom w0 w [rowR 103 4 Sess.c a.2.1,star (rdRs b q a.2.2.1 a.2.2.2.1)]) (fun a=>a.1) (n,Sl.nil,p1,f1,lft (rdR N1.dec s)) (by (repeat' (first|exact trivial|(refine ⟨rfl,?_⟩)))) ⟨by show 0+n=n;omega,RpI.start,hI1,(hp.nilRow 103 4 Sess.c)⟩ ?_
 clear hp hI hI1
 rintro ⟨k,out,p1,f1,s1⟩ e0 w ⟨hk,hr,hI,hp⟩
 dsimp only at hk hr hI hp ⊢
 have he:=fun {w:World} (hc:(star (rdRs b q p1 f1)).ok w)=>rerrI_any hI hc
 rcases Nat.eq_zero_or_pos k with rfl|hpos
 ·obtain ⟨hl,hv⟩:=hr.stop (.inl rfl)
  have hv:=rv_lst hvn hv
  have hl:=(lft_lst (C:=sesC) hvn).trans hl
  rw [←hl] at hI
  ((conv=>whnf);repeat' (((with_reducible apply br_id);first|with_reducible refine br_f ?_|((with_reducible refine br_dec (fun hx=>?_) (fun hx=>?_))<;>(try (exfalso;first|omega|contradiction))))<;>(conv=>whnf)))
  exact ps_val (v':=out.v) rfl ⟨out,p1,f1,hv,by omega,hI,rfl,hp.give⟩
 rcases cod_z (s:=s1) with hz|hz
 ·obtain ⟨k,rfl⟩:∃k',k=k'+1:=⟨k - 1,by omega⟩
  ((conv=>whnf);repeat' ((first|((with_reducible apply br_id);first|with_reducible refine br_t ?_|((with_reducible refine br_dec (fun hx=>?_) (fun hx=>?_))<;>(try (exfalso;first|omega|contradiction)))|((with_reducible refine br_eq (fun hx=>?_) (fun hx=>?_))<;>(try (exfalso;first|omega|contradiction))))|((with_reducible apply cl_id);(refine cl_eq ((he (hp.ok (star (rdRs b q p1 f1)) (by simp)))) rfl rfl ?_;rintro e w ⟨rfl,hcc⟩;replace hp:=hp.call0 hcc;refine ⟨_,rfl,?_⟩)))<;>(conv=>whnf)))
  refine cl_eq (cd4_any hI hq (h.via hp (by simp))) rfl rfl ?_
  rintro r w ⟨x,p2,f2,hv,hI2,rfl,hm⟩
  replace hp:=hp.via (j:=1) rfl hm
  dsimp only [List.set] at hp
  clear hm
  refine ⟨_,rfl,?_⟩
  have hr2:=hr.next hv
  ((conv=>whnf);repeat' ((first|((with_reducible apply ar_id);(refine ar_un9 k (by omega) (by omega) ?_))|((with_reducible apply gen_id);first|((refine gen_bs rfl hp el_ses Sess.c [x] [Sess.v x] rfl rfl rfl (fun _ hh=>by simp at hh;subst hh;rfl) (by omega) ?_);clear hp;intro br w hp)|((refine gen_app (s:=out) rfl hp 1 rfl el_ses rfl ⟨some ⟨br,0,none⟩,1, [x]⟩ rfl (hp.row (j:=0) rfl) (fun _ _=>rfl) ses_one (by simp only [List.length_cons,List.length_nil];omega) (by simp only [maxLen,List.length_cons,List.length_nil];omega) ?_);clear hp;intro A2 c2 w hp;dsimp only [List.set] at hp)))<;>(conv=>whnf)))
  exact lp_next (k,(⟨A2,c2,out.l++ [x]⟩:Sl Sess),p2,f2,lft (rdR (sesC).dec s1)) (by show k < k+1;omega) (by (repeat' (first|exact trivial|(refine ⟨rfl,?_⟩)))) ⟨by show (out.l++ [x]).length+k=n;rw [List.length_append];simp only [List.length_cons,List.length_nil];omega,hr2,hI2,hp.tail⟩
 ·obtain ⟨hl,hv⟩:=hr.stop (.inr hz)
  have hv:=rv_lst hvn hv
  have hl:=(lft_lst (C:=sesC) hvn).trans hl
  rw [←hl] at hI
  ((conv=>whnf);repeat' ((first|((with_reducible apply br_id);first|with_reducible refine br_t ?_|((with_reducible refine br_dec (fun hx=>?_) (fun hx=>?_))<;>(try (exfalso;first|omega|contradiction)))|((with_reducible refine br_eq (fun hx=>?_) (fun hx=>?_))<;>(try (exfalso;first|omega|contradiction))))|((with_reducible apply cl_id);(refine cl_eq ((he (hp.ok (star (rdRs b q p1 f1)) (by simp)))) rfl rfl ?_;rintro e w ⟨rfl,hcc⟩;replace hp:=hp.call0 hcc;refine ⟨_,rfl,?_⟩)))<;>(conv=>whnf)))
  exact ps_val (v':=out.v) rfl ⟨out,p1,f1,hv,by omega,hI,rfl,hp.give⟩
theorem tk3_any (hI:RdI q.l p (badE f) s) (hq:q.l.length≤1000000) (h:RdX pr pn pk b p q f w0):Calls Tryz.prog 74 #[ptr b,i64 2, .func (.func 75) #[] #[ptr pn,ptr pr,ptr pk]] w0 fun e w'=>
  ∃(x:Sl Blob) (p':Nat) (f':Flt),Rv (rdR (lstC N2 (blobC)).dec s) (x.l.map Blob.p)∧x.l.length < 65536∧RdI q.l p' (badE f') (lft (rdR (lstC N2 (blobC)).dec s))∧e= .returned x.v∧Mut (star (rdRs b q p f)) (star (star (blobRs x)::rdRs b q p' f')) w0 w':=by
 have hp:=Hp.start1 h.ok
 refine calls_x (args:= [_,_,_]) tabOk Tryz.func74 Tryz.ntmps74 Tryz.results74 rfl (Nat.le_of_ble_eq_true rfl) ?_
 ((conv=>whnf))
 refine cl_eq (rnumI_any 2 N2 (fun _=>rfl) (by omega) hI hq (hp.get (j:=0) rfl)) rfl rfl ?_
 rintro r w ⟨n,p1,f1,hvn,hn,hI1,rfl,hm⟩
 replace hp:=hp.via (j:=0) rfl hm
 dsimp only [List.set] at hp
 clear hm
 refine ⟨_,rfl,?_⟩
 have hn:n < 65536:=hn
 ((conv=>whnf))
 refine lp_inv (α:=Nat×Sl Blob×Nat×Flt×Rst) (fun a=> [(0,ptr b),(2, .func (.func 75) #[] #[ptr pn,ptr pr,ptr pk]),(7,a.2.1.v),(8, .int .u64 a.1)]) (fun a w=>a.2.1.l.length+a.1=n∧RpI (blobC) n (lft (rdR N2.dec s)) a.1 a.2.2.2.2 (a.2.1.l.map Blob.p)∧RdI q.l a.2.2.1 (badE a.2.2.2.1) a.2.2.2.2∧Hp (star (rdRs b q p f)).dom w0 w [rowR 46 19 Blob.c a.2.1,star (a.2.1.l.map bdatR),star (rdRs b q a.2.2.1 a.2.2.2.1)]) (fun a=>a.1) (n,Sl.nil,p1,f1,lft (rdR N2.dec s)) (by (repeat' (first|exact trivial|(refine ⟨rfl,?_⟩)))) ⟨by show 0+n=n;omega,RpI.start,hI1,((hp.nilStarR).nilRow 46 19 Blob.c)⟩ ?_
 clear hp hI hI1
 rintro ⟨k,out,p1,f1,s1⟩ e0 w ⟨hk,hr,hI,hp⟩
 dsimp only at hk hr hI hp ⊢
 have he:=fun {w:World} (hc:(star (rdRs b q p1 f1)).ok w)=>rerrI_any hI hc
 rcases Nat.eq_zero_or_pos k with rfl|hpos
 ·obtain ⟨hl,hv⟩:=hr.stop (.inl rfl)
  have hv:=rv_lst hvn hv
  have hl:=(lft_lst (C:=blobC) hvn).trans hl
  rw [←hl] at hI
  ((conv=>whnf);repeat' (((with_reducible apply br_id);first|with_reducible refine br_f ?_|((with_reducible refine br_dec (fun hx=>?_) (fun hx=>?_))<;>(try (exfalso;first|omega|contradiction))))<;>(conv=>whnf)))
  exact ps_val (v':=out.v) rfl ⟨out,p1,f1,hv,by omega,hI,rfl,hp.foldR.give⟩
 rcases cod_z (s:=s1) with hz|hz
 ·obtain ⟨k,rfl⟩:∃k',k=k'+1:=⟨k - 1,by omega⟩
  ((conv=>whnf);repeat' ((first|((with_reducible apply br_id);first|with_reducible refine br_t ?_|((with_reducible refine br_dec (fun hx=>?_) (fun hx=>?_))<;>(try (exfalso;first|omega|contradiction)))|((with_reducible refine br_eq (fun hx=>?_) (fun hx=>?_))<;>(try (exfalso;first|omega|contradiction))))|((with_reducible apply cl_id);(refine cl_eq ((he (hp.ok (star (rdRs b q p1 f1)) (by simp)))) rfl rfl ?_;rintro e w ⟨rfl,hcc⟩;replace hp:=hp.call0 hcc;refine ⟨_,rfl,?_⟩)))<;>(conv=>whnf)))
  refine cl_eq (cd5_any hI hq (h.via hp (by simp))) rfl rfl ?_
  rintro r w ⟨x,p2,f2,hv,hI2,rfl,hm⟩
  replace hp:=hp.via (j:=2) rfl hm
  dsimp only [List.set] at hp
  clear hm
  refine ⟨_,rfl,?_⟩
  have hr2:=hr.next hv
  replace hp:=((hp.pick (rs':= [_,_,_]) [2,1,0] (by decide) rfl).split1.pick (rs':= [_,_,_,_]) [0,2,3,1] (by decide) rfl).snocR
  rw [show out.l.map bdatR++ [bdatR x]=(out.l++ [x]).map bdatR by rw [List.map_append];rfl] at hp
  ((conv=>whnf);repeat' ((first|((with_reducible apply ar_id);(refine ar_un9 k (by omega) (by omega) ?_))|((with_reducible apply gen_id);first|((refine gen_bs rfl hp el_blob Blob.c [x] [Blob.v x] rfl rfl rfl (fun _ hh=>by simp at hh;subst hh;rfl) (by omega) ?_);clear hp;intro br w hp)|((refine gen_app (s:=out) rfl hp 2 rfl el_blob rfl ⟨some ⟨br,0,none⟩,1, [x]⟩ rfl (hp.row (j:=0) rfl) (fun _ _=>rfl) blob_one (by simp only [List.length_cons,List.length_nil];omega) (by simp only [maxLen,List.length_cons,List.length_nil];omega) ?_);clear hp;intro A2 c2 w hp;dsimp only [List.set] at hp)))<;>(conv=>whnf)))
  exact lp_next (k,(⟨A2,c2,out.l++ [x]⟩:Sl Blob),p2,f2,lft (rdR (blobC).dec s1)) (by show k < k+1;omega) (by (repeat' (first|exact trivial|(refine ⟨rfl,?_⟩)))) ⟨by show (out.l++ [x]).length+k=n;rw [List.length_append];simp only [List.length_cons,List.length_nil];omega,by rw [List.map_append];exact hr2,hI2,hp.tail.pick [1,0,2] (by decide) rfl⟩
 ·obtain ⟨hl,hv⟩:=hr.stop (.inr hz)
  have hv:=rv_lst hvn hv
  have hl:=(lft_lst (C:=blobC) hvn).trans hl
  rw [←hl] at hI
  ((conv=>whnf);repeat' ((first|((with_reducible apply br_id);first|with_reducible refine br_t ?_|((with_reducible refine br_dec (fun hx=>?_) (fun hx=>?_))<;>(try (exfalso;first|omega|contradiction)))|((with_reducible refine br_eq (fun hx=>?_) (fun hx=>?_))<;>(try (exfalso;first|omega|contradiction))))|((with_reducible apply cl_id);(refine cl_eq ((he (hp.ok (star (rdRs b q p1 f1)) (by simp)))) rfl rfl ?_;rintro e w ⟨rfl,hcc⟩;replace hp:=hp.call0 hcc;refine ⟨_,rfl,?_⟩)))<;>(conv=>whnf)))
  exact ps_val (v':=out.v) rfl ⟨out,p1,f1,hv,by omega,hI,rfl,hp.foldR.give⟩
theorem tk4_any (hI:RdI q.l p (badE f) s) (hq:q.l.length≤1000000) (h:RdX pr pn pk b p q f w0):Calls Tryz.prog 77 #[ptr b,i64 2, .func (.func 78) #[] #[ptr pn,ptr pr,ptr pk]] w0 fun e w'=>
  ∃(x:Sl Job) (p':Nat) (f':Flt),Rv (rdR (lstC N2 (jobC)).dec s) (x.l.map Job.p)∧x.l.length < 65536∧RdI q.l p' (badE f') (lft (rdR (lstC N2 (jobC)).dec s))∧e= .returned x.v∧Mut (star (rdRs b q p f)) (star (star (jobRs x)::rdRs b q p' f')) w0 w':=by
 have hp:=Hp.start1 h.ok
 refine calls_x (args:= [_,_,_]) tabOk Tryz.func77 Tryz.ntmps77 Tryz.results77 rfl (Nat.le_of_ble_eq_true rfl) ?_
 ((conv=>whnf))
 refine cl_eq (rnumI_any 2 N2 (fun _=>rfl) (by omega) hI hq (hp.get (j:=0) rfl)) rfl rfl ?_
 rintro r w ⟨n,p1,f1,hvn,hn,hI1,rfl,hm⟩
 replace hp:=hp.via (j:=0) rfl hm
 dsimp only [List.set] at hp
 clear hm
 refine ⟨_,rfl,?_⟩
 have hn:n < 65536:=hn
 ((conv=>whnf))
 refine lp_inv (α:=Nat×Sl Job×Nat×Flt×Rst) (fun a=> [(0,ptr b),(2, .func (.func 78) #[] #[ptr pn,ptr pr,ptr pk]),(7,a.2.1.v),(8, .int .u64 a.1)]) (fun a w=>a.2.1.l.length+a.1=n∧RpI (jobC) n (lft (rdR N2.dec s)) a.1 a.2.2.2.2 (a.2.1.l.map Job.p)∧RdI q.l a.2.2.1 (badE a.2.2.2.1) a.2.2.2.2∧Hp (star (rdRs b q p f)).dom w0 w [rowR 59 38 Job.c a.2.1,star (a.2.1.l.map jpayR),star (rdRs b q a.2.2.1 a.2.2.2.1)]) (fun a=>a.1) (n,Sl.nil,p1,f1,lft (rdR N2.dec s)) (by (repeat' (first|exact trivial|(refine ⟨rfl,?_⟩)))) ⟨by show 0+n=n;omega,RpI.start,hI1,((hp.nilStarR).nilRow 59 38 Job.c)⟩ ?_
 clear hp hI hI1
 rintro ⟨k,out,p1,f1,s1⟩ e0 w ⟨hk,hr,hI,hp⟩
 dsimp only at hk hr hI hp ⊢
 have he:=fun {w:World} (hc:(star (rdRs b q p1 f1)).ok w)=>rerrI_any hI hc
 rcases Nat.eq_zero_or_pos k with rfl|hpos
 ·obtain ⟨hl,hv⟩:=hr.stop (.inl rfl)
  have hv:=rv_lst hvn hv
  have hl:=(lft_lst (C:=jobC) hvn).trans hl
  rw [←hl] at hI
  ((conv=>whnf);repeat' (((with_reducible apply br_id);first|with_reducible refine br_f ?_|((with_reducible refine br_dec (fun hx=>?_) (fun hx=>?_))<;>(try (exfalso;first|omega|contradiction))))<;>(conv=>whnf)))
  exact ps_val (v':=out.v) rfl ⟨out,p1,f1,hv,by omega,hI,rfl,hp.foldR.give⟩
 rcases cod_z (s:=s1) with hz|hz
 ·obtain ⟨k,rfl⟩:∃k',k=k'+1:=⟨k - 1,by omega⟩
  ((conv=>whnf);repeat' ((first|((with_reducible apply br_id);first|with_reducible refine br_t ?_|((with_reducible refine br_dec (fun hx=>?_) (fun hx=>?_))<;>(try (exfalso;first|omega|contradiction)))|((with_reducible refine br_eq (fun hx=>?_) (fun hx=>?_))<;>(try (exfalso;first|omega|contradiction))))|((with_reducible apply cl_id);(refine cl_eq ((he (hp.ok (star (rdRs b q p1 f1)) (by simp)))) rfl rfl ?_;rintro e w ⟨rfl,hcc⟩;replace hp:=hp.call0 hcc;refine ⟨_,rfl,?_⟩)))<;>(conv=>whnf)))
  refine cl_eq (cd6_any hI hq (h.via hp (by simp))) rfl rfl ?_
  rintro r w ⟨x,p2,f2,hv,hI2,rfl,hm⟩
  replace hp:=hp.via (j:=2) rfl hm
  dsimp only [List.set] at hp
  clear hm
  refine ⟨_,rfl,?_⟩
  have hr2:=hr.next hv
  replace hp:=((hp.pick (rs':= [_,_,_]) [2,1,0] (by decide) rfl).split1.pick (rs':= [_,_,_,_]) [0,2,3,1] (by decide) rfl).snocR
  rw [show out.l.map jpayR++ [jpayR x]=(out.l++ [x]).map jpayR by rw [List.map_append];rfl] at hp
  ((conv=>whnf);repeat' ((first|((with_reducible apply ar_id);(refine ar_un9 k (by omega) (by omega) ?_))|((with_reducible apply gen_id);first|((refine gen_bs rfl hp el_job Job.c [x] [Job.v x] rfl rfl rfl (fun _ hh=>by simp at hh;subst hh;rfl) (by omega) ?_);clear hp;intro br w hp)|((refine gen_app (s:=out) rfl hp 2 rfl el_job rfl ⟨some ⟨br,0,none⟩,1, [x]⟩ rfl (hp.row (j:=0) rfl) (fun _ _=>rfl) job_one (by simp only [List.length_cons,List.length_nil];omega) (by simp only [maxLen,List.length_cons,List.length_nil];omega) ?_);clear hp;intro A2 c2 w hp;dsimp only [List.set] at hp)))<;>(conv=>whnf)))
  exact lp_next (k,(⟨A2,c2,out.l++ [x]⟩:Sl Job),p2,f2,lft (rdR (jobC).dec s1)) (by show k < k+1;omega) (by (repeat' (first|exact trivial|(refine ⟨rfl,?_⟩)))) ⟨by show (out.l++ [x]).length+k=n;rw [List.length_append];simp only [List.length_cons,List.length_nil];omega,by rw [List.map_append];exact hr2,hI2,hp.tail.pick [1,0,2] (by decide) rfl⟩
 ·obtain ⟨hl,hv⟩:=hr.stop (.inr hz)
  have hv:=rv_lst hvn hv
  have hl:=(lft_lst (C:=jobC) hvn).trans hl
  rw [←hl] at hI
  ((conv=>whnf);repeat' ((first|((with_reducible apply br_id);first|with_reducible refine br_t ?_|((with_reducible refine br_dec (fun hx=>?_) (fun hx=>?_))<;>(try (exfalso;first|omega|contradiction)))|((with_reducible refine br_eq (fun hx=>?_) (fun hx=>?_))<;>(try (exfalso;first|omega|contradiction))))|((with_reducible apply cl_id);(refine cl_eq ((he (hp.ok (star (rdRs b q p1 f1)) (by simp)))) rfl rfl ?_;rintro e w ⟨rfl,hcc⟩;replace hp:=hp.call0 hcc;refine ⟨_,rfl,?_⟩)))<;>(conv=>whnf)))
  exact ps_val (v':=out.v) rfl ⟨out,p1,f1,hv,by omega,hI,rfl,hp.foldR.give⟩
end
theorem Hp.outR {S:Nat→Prop} {w0 w:World} {r:Res} {L rs:List Res} (h:Hp S w0 w (star (r::L)::rs)):Hp S w0 w (star L::r::rs):=h.split1.perm (.swap ..)
theorem rdx_of {S:Nat→Prop} {pr pn pk b p:Nat} {q:Sl UInt8} {f:Flt} {w0 w:World} {rs:List Res} {t1 t2 t3:TypeId} (hp:Hp S w0 w (star (rdRs b q p f)::cel pr t1 #[ptr b]::cel pn t2 #[fnV pr]::cel pk t3 #[fkV pr]::rs)):RdX pr pn pk b p q f w:=
 have sep:=fun {r:Res} (hr:r∈_)=>(List.pairwise_cons.1 hp.sep).1 r hr
 have cl:∀{k:Nat} {t:TypeId} {v:Value},(cel k t #[v]).ok w→w.cell? ⟨k,0,none⟩=some v:=fun hc=>by
  have hok:=cel_ok.1 hc
  simp only [World.cell?,hok]
  rfl
 ⟨hp.ok _ (List.mem_cons_self ..),cl (hp.get (j:=1) rfl),cl (hp.get (j:=2) rfl),cl (hp.get (j:=3) rfl),
  fun hd=>sep (r:=cel pr t1 #[ptr b]) (by simp) pr hd (cel_dom.2 rfl),fun hd=>sep (r:=cel pn t2 #[fnV pr]) (by simp) pn hd (cel_dom.2 rfl),fun hd=>sep (r:=cel pk t3 #[fkV pr]) (by simp) pk hd (cel_dom.2 rfl)⟩
theorem rv_conv {α β γ:Type} {C:Cdc α} {f:α→β} {g:β→α} {hg:∀a,C.ok a→g (f a)=a} {f2:α→γ} {g2:γ→α} {hg2:∀a,C.ok a→g2 (f2 a)=a} {s:Rst} {x:β} (k:β→γ) (hk:∀a,C.ok a→f2 a=k (f a)) (h:Rv (rdR (mapC C f g hg).dec s) x):Rv (rdR (mapC C f2 g2 hg2).dec s) (k x):=fun a r he=>by
 cases s with
 |error e=>cases he
 |ok l=>
  have h:Rv (match C.dec l with| .error e=>.error e| .ok (a,r)=>.ok (f a,r)) x:=h
  have he:(match C.dec l with| .error e=>.error e| .ok (a,r)=>.ok (f2 a,r))=Except.ok (a,r):=he
  cases hd:C.dec l with
  |error e=>rw [hd] at he;cases he
  |ok u=>
   obtain ⟨u1,u2⟩:=u
   rw [hd] at he h
   cases he
   have h1:x=f u1:=h _ _ rfl
   rw [h1,hk _ (C.inv _ _ _ hd).1]
theorem rv_int {s:Rst} {x:UInt32} (h:Rv (rdR u32C.dec s) x):Rv (rdR intC.dec s) (x.toNat:Int):=
 rv_conv (fun x:UInt32=>(x.toNat:Int)) (fun a ha=>by
  have h2:a < 256 ^ 4:=ha
  rw [UInt32.toNat_ofNat_of_lt' (by simpa using h2)]
  rfl) h
theorem lft_int {s:Rst}:lft (rdR u32C.dec s)=lft (rdR intC.dec s):=(lft_map (C:=N4) (s:=s)).trans (lft_map (C:=N4) (s:=s)).symm
abbrev nxI (s:Rst):Rst:=lft (rdR intC.dec s)
def CfR (s:Rst):Nat→Cfg→Rst→Prop
 |0,c,s'=>c=⟨0,0,0,0,0,0⟩∧s'=s
 |1,c,s'=>∃x1,c=⟨x1,0,0,0,0,0⟩∧Rv (rdR intC.dec s) x1∧s'=nxI s
 |2,c,s'=>∃x1 x2,c=⟨x1,x2,0,0,0,0⟩∧Rv (rdR intC.dec s) x1∧Rv (rdR intC.dec (nxI s)) x2∧s'=nxI (nxI s)
 |3,c,s'=>∃x1 x2 x3,c=⟨x1,x2,x3,0,0,0⟩∧Rv (rdR intC.dec s) x1∧Rv (rdR intC.dec (nxI s)) x2∧Rv (rdR intC.dec (nxI (nxI s))) x3∧s'=nxI (nxI (nxI s))
 |4,c,s'=>∃x1 x2 x3 x4,c=⟨x1,x2,x3,x4,0,0⟩∧Rv (rdR intC.dec s) x1∧Rv (rdR intC.dec (nxI s)) x2∧Rv (rdR intC.dec (nxI (nxI s))) x3∧Rv (rdR intC.dec (nxI (nxI (nxI s)))) x4∧s'=nxI (nxI (nxI (nxI s)))
 |5,c,s'=>∃x1 x2 x3 x4 x5,c=⟨x1,x2,x3,x4,x5,0⟩∧Rv (rdR intC.dec s) x1∧Rv (rdR intC.dec (nxI s)) x2∧Rv (rdR intC.dec (nxI (nxI s))) x3∧Rv (rdR intC.dec (nxI (nxI (nxI s)))) x4∧Rv (rdR intC.dec (nxI (nxI (nxI (nxI s))))) x5∧s'=nxI (nxI (nxI (nxI (nxI s))))
 |6,c,s'=>Rv (rdR cfgC.dec s) c∧s'=lft (rdR cfgC.dec s)
 |_,_,_=>False
section
variable {b p : Nat} {q : Sl UInt8} {f : Flt} {s : Rst} {w0 : World}
theorem iread_any (hI:RdI q.l p (badE f) s) (hq:q.l.length≤1000000) (h:(star (rdRs b q p f)).ok w0):Calls Tryz.prog 21 #[ptr b] w0 fun e w'=>
  ∃(x:Sta) (p':Nat) (f':Flt),Rv (rdR staC.dec s) x.p∧RdI q.l p' (badE f') (lft (rdR staC.dec s))∧e= .returned x.v∧Mut (star (rdRs b q p f)) (star (star (staRs x)::rdRs b q p' f')) w0 w':=by
 have hp:=Hp.start1 h
 have u6:=Tryz.underlying128
 refine calls_x (args:= [_]) tabOk Tryz.func21 Tryz.ntmps21 Tryz.results21 rfl (Nat.le_of_ble_eq_true rfl) ?_
 ((conv=>whnf);repeat' (((with_reducible apply al_id);refine al_cel hp ?_;clear hp;intro bb w hp)<;>(conv=>whnf)))
 obtain ⟨b2,hb2⟩:∃b,b=bb:=⟨_,rfl⟩
 subst hb2
 obtain ⟨pr,hpr⟩:∃b,b=bb:=⟨_,rfl⟩
 subst hpr
 ((conv=>whnf);repeat' ((first|((with_reducible apply cn_id);refine cn rfl ?_)|((with_reducible apply al_id);refine al_cel hp ?_;clear hp;intro bb w hp)|((with_reducible apply st_id);apply sta_hs hp;(focus repeat' constructor);exact rfl;exact rfl;clear hp;intro w hp;(try dsimp only [List.set] at hp))|((with_reducible apply gen_id);(refine gen_mkf rfl (v:=fnV pr) rfl ?_)))<;>(conv=>whnf)))
 obtain ⟨pn,hpn⟩:∃b,b=bb:=⟨_,rfl⟩
 subst hpn
 ((conv=>whnf);repeat' ((first|((with_reducible apply cn_id);refine cn rfl ?_)|((with_reducible apply al_id);refine al_cel hp ?_;clear hp;intro bb w hp)|((with_reducible apply st_id);apply sta_hs hp;(focus repeat' constructor);exact rfl;exact rfl;clear hp;intro w hp;(try dsimp only [List.set] at hp))|((with_reducible apply gen_id);(refine gen_mkf rfl (v:=fkV pr) rfl ?_)))<;>(conv=>whnf)))
 obtain ⟨b5,hb5⟩:∃b,b=bb:=⟨_,rfl⟩
 subst hb5
 obtain ⟨pk,hpk⟩:∃b,b=bb:=⟨_,rfl⟩
 subst hpk
 replace hp:Hp (star (rdRs b q p f)).dom w0 w [star (rdRs b q p f),cel pr 63 #[ptr b],cel pn 123 #[fnV pr],cel pk 125 #[fkV pr],cel b5 31 (Sta.c ⟨⟨0,0,0,0,0,0⟩,0,0,0,Sl.nil,Sl.nil,Sl.nil,Sl.nil⟩).toArray,cel b2 31 (Sta.c Sta.z).toArray]:=hp.pick [5,4,2,1,0,3] (by decide) rfl
 ((conv=>whnf);repeat' ((first|((with_reducible apply gen_id);apply gen_build;exact rfl;exact rfl)|((with_reducible apply dr_id);refine dr_auto tabOk (by kernel_rfl) (by decide+kernel) ?_;(try replace hp:=hp.drew)))<;>(conv=>whnf)))
 refine lp_inv (α:=Nat×Cfg×Nat×Flt×Rst) (fun a=> [(1,ptr pr),(2,ptr b2),(3,ptr pn),(4,ptr pk),(5,ptr b5),(30, .agg #[.pointer (some ⟨b5,0,none⟩), .pointer (some ⟨b5,1,none⟩), .pointer (some ⟨b5,2,none⟩), .pointer (some ⟨b5,3,none⟩), .pointer (some ⟨b5,4,none⟩), .pointer (some ⟨b5,5,none⟩)]),(31,i64 a.1)]) (fun a w=>a.1≤6∧CfR s a.1 a.2.1 a.2.2.2.2∧RdI q.l a.2.2.1 (badE a.2.2.2.1) a.2.2.2.2∧Hp (star (rdRs b q p f)).dom w0 w [star (rdRs b q a.2.2.1 a.2.2.2.1),cel pr 63 #[ptr b],cel pn 123 #[fnV pr],cel pk 125 #[fkV pr],cel b5 31 (Sta.c ⟨a.2.1,0,0,0,Sl.nil,Sl.nil,Sl.nil,Sl.nil⟩).toArray,cel b2 31 (Sta.c Sta.z).toArray]) (fun a=>6 - a.1) (0,⟨0,0,0,0,0,0⟩,p,f,s) (by (repeat' (first|exact trivial|(refine ⟨rfl,?_⟩)))) ⟨Nat.zero_le _,⟨rfl,rfl⟩,hI,hp⟩ ?_
 clear hp hI
 rintro ⟨i,c,p1,f1,s1⟩ e0 w ⟨hi,hC,hI,hp⟩
 dsimp only at hi hC hI hp ⊢
 rcases Nat.lt_or_ge i 6 with hlt|hge
 ·have hcase:i=0∨i=1∨i=2∨i=3∨i=4∨i=5:=by omega
  rcases hcase with rfl|rfl|rfl|rfl|rfl|rfl
  ·obtain ⟨rfl,rfl⟩:=hC
   ((conv=>whnf);repeat' ((first|((with_reducible apply br_id);(with_reducible refine br_dec (fun hx=>?_) (fun hx=>?_))<;>(try (exfalso;first|omega|contradiction)))|((with_reducible apply ld_id);apply ld_hs hp;(focus repeat' constructor);exact rfl)|((with_reducible apply gen_id);(refine gen_arx (f:=fun z:Nat=>.pointer (some ⟨b5,z,none⟩)) (l:= [0,1,2,3,4,5]) rfl u6 rfl rfl rfl (by omega) 0 (by omega) rfl ?_)))<;>(conv=>whnf)))
   refine cl_eq (cd1_any hI hq (rdx_of hp)) rfl rfl ?_
   rintro r w ⟨y,p2,f2,hv,hI2,rfl,hm⟩
   replace hp:=hp.via (j:=0) rfl hm
   dsimp only [List.set] at hp
   clear hm
   refine ⟨_,rfl,?_⟩
   rw [lft_int] at hI2
   have hy32:y.toNat < 4294967296:=y.toNat_lt
   ((conv=>whnf);repeat' ((first|((with_reducible apply ar_id);first|(refine ar_n (1) (by omega) (by omega) ?_)|refine ar_i64 (by omega) ?_)|((with_reducible apply cn_id);refine cn rfl ?_)|((with_reducible apply st_id);apply st_hs hp;(focus repeat' constructor);exact rfl;exact rfl;clear hp;intro w hp;(try dsimp only [List.set] at hp)))<;>(conv=>whnf)))
   exact lp_next (1,(⟨(y.toNat:Int),0,0,0,0,0⟩:Cfg),p2,f2,_) (by show 6 - 1 < 6 - 0;omega) (by (repeat' (first|exact trivial|(refine ⟨rfl,?_⟩)))) ⟨by show 1≤6;omega,by show CfR _ 1 _ _;rw [CfR];exact ⟨_,rfl,rv_int hv,rfl⟩,hI2,hp⟩
  ·obtain ⟨x1,rfl,h1,rfl⟩:=hC
   ((conv=>whnf);repeat' ((first|((with_reducible apply br_id);(with_reducible refine br_dec (fun hx=>?_) (fun hx=>?_))<;>(try (exfalso;first|omega|contradiction)))|((with_reducible apply ld_id);apply ld_hs hp;(focus repeat' constructor);exact rfl)|((with_reducible apply gen_id);(refine gen_arx (f:=fun z:Nat=>.pointer (some ⟨b5,z,none⟩)) (l:= [0,1,2,3,4,5]) rfl u6 rfl rfl rfl (by omega) 1 (by omega) rfl ?_)))<;>(conv=>whnf)))
   refine cl_eq (cd1_any hI hq (rdx_of hp)) rfl rfl ?_
   rintro r w ⟨y,p2,f2,hv,hI2,rfl,hm⟩
   replace hp:=hp.via (j:=0) rfl hm
   dsimp only [List.set] at hp
   clear hm
   refine ⟨_,rfl,?_⟩
   rw [lft_int] at hI2
   have hy32:y.toNat < 4294967296:=y.toNat_lt
   ((conv=>whnf);repeat' ((first|((with_reducible apply ar_id);first|(refine ar_n (2) (by omega) (by omega) ?_)|refine ar_i64 (by omega) ?_)|((with_reducible apply cn_id);refine cn rfl ?_)|((with_reducible apply st_id);apply st_hs hp;(focus repeat' constructor);exact rfl;exact rfl;clear hp;intro w hp;(try dsimp only [List.set] at hp)))<;>(conv=>whnf)))
   exact lp_next (2,(⟨x1,(y.toNat:Int),0,0,0,0⟩:Cfg),p2,f2,_) (by show 6 - 2 < 6 - 1;omega) (by (repeat' (first|exact trivial|(refine ⟨rfl,?_⟩)))) ⟨by show 2≤6;omega,by show CfR _ 2 _ _;rw [CfR];exact ⟨_,_,rfl,h1,rv_int hv,rfl⟩,hI2,hp⟩
  ·obtain ⟨x1,x2,rfl,h1,h2,rfl⟩:=hC
   ((conv=>whnf);repeat' ((first|((with_reducible apply br_id);(with_reducible refine br_dec (fun hx=>?_) (fun hx=>?_))<;>(try (exfalso;first|omega|contradiction)))|((with_reducible apply ld_id);apply ld_hs hp;(focus repeat' constructor);exact rfl)|((with_reducible apply gen_id);(refine gen_arx (f:=fun z:Nat=>.pointer (some ⟨b5,z,none⟩)) (l:= [0,1,2,3,4,5]) rfl u6 rfl rfl rfl (by omega) 2 (by omega) rfl ?_)))<;>(conv=>whnf)))
   refine cl_eq (cd1_any hI hq (rdx_of hp)) rfl rfl ?_
   rintro r w ⟨y,p2,f2,hv,hI2,rfl,hm⟩
   replace hp:=hp.via (j:=0) rfl hm
   dsimp only [List.set] at hp
   clear hm
   refine ⟨_,rfl,?_⟩
   rw [lft_int] at hI2
   have hy32:y.toNat < 4294967296:=y.toNat_lt
   ((conv=>whnf);repeat' ((first|((with_reducible apply ar_id);first|(refine ar_n (3) (by omega) (by omega) ?_)|refine ar_i64 (by omega) ?_)|((with_reducible apply cn_id);refine cn rfl ?_)|((with_reducible apply st_id);apply st_hs hp;(focus repeat' constructor);exact rfl;exact rfl;clear hp;intro w hp;(try dsimp only [List.set] at hp)))<;>(conv=>whnf)))
   exact lp_next (3,(⟨x1,x2,(y.toNat:Int),0,0,0⟩:Cfg),p2,f2,_) (by show 6 - 3 < 6 - 2;omega) (by (repeat' (first|exact trivial|(refine ⟨rfl,?_⟩)))) ⟨by show 3≤6;omega,by show CfR _ 3 _ _;rw [CfR];exact ⟨_,_,_,rfl,h1,h2,rv_int hv,rfl⟩,hI2,hp⟩
  ·obtain ⟨x1,x2,x3,rfl,h1,h2,h3,rfl⟩:=hC
   ((conv=>whnf);repeat' ((first|((with_reducible apply br_id);(with_reducible refine br_dec (fun hx=>?_) (fun hx=>?_))<;>(try (exfalso;first|omega|contradiction)))|((with_reducible apply ld_id);apply ld_hs hp;(focus repeat' constructor);exact rfl)|((with_reducible apply gen_id);(refine gen_arx (f:=fun z:Nat=>.pointer (some ⟨b5,z,none⟩)) (l:= [0,1,2,3,4,5]) rfl u6 rfl rfl rfl (by omega) 3 (by omega) rfl ?_)))<;>(conv=>whnf)))
   refine cl_eq (cd1_any hI hq (rdx_of hp)) rfl rfl ?_
   rintro r w ⟨y,p2,f2,hv,hI2,rfl,hm⟩
   replace hp:=hp.via (j:=0) rfl hm
   dsimp only [List.set] at hp
   clear hm
   refine ⟨_,rfl,?_⟩
   rw [lft_int] at hI2
   have hy32:y.toNat < 4294967296:=y.toNat_lt
   ((conv=>whnf);repeat' ((first|((with_reducible apply ar_id);first|(refine ar_n (4) (by omega) (by omega) ?_)|refine ar_i64 (by omega) ?_)|((with_reducible apply cn_id);refine cn rfl ?_)|((with_reducible apply st_id);apply st_hs hp;(focus repeat' constructor);exact rfl;exact rfl;clear hp;intro w hp;(try dsimp only [List.set] at hp)))<;>(conv=>whnf)))
   exact lp_next (4,(⟨x1,x2,x3,(y.toNat:Int),0,0⟩:Cfg),p2,f2,_) (by show 6 - 4 < 6 - 3;omega) (by (repeat' (first|exact trivial|(refine ⟨rfl,?_⟩)))) ⟨by show 4≤6;omega,by show CfR _ 4 _ _;rw [CfR];exact ⟨_,_,_,_,rfl,h1,h2,h3,rv_int hv,rfl⟩,hI2,hp⟩
  ·obtain ⟨x1,x2,x3,x4,rfl,h1,h2,h3,h4,rfl⟩:=hC
   ((conv=>whnf);repeat' ((first|((with_reducible apply br_id);(with_reducible refine br_dec (fun hx=>?_) (fun hx=>?_))<;>(try (exfalso;first|omega|contradiction)))|((with_reducible apply ld_id);apply ld_hs hp;(focus repeat' constructor);exact rfl)|((with_reducible apply gen_id);(refine gen_arx (f:=fun z:Nat=>.pointer (some ⟨b5,z,none⟩)) (l:= [0,1,2,3,4,5]) rfl u6 rfl rfl rfl (by omega) 4 (by omega) rfl ?_)))<;>(conv=>whnf)))
   refine cl_eq (cd1_any hI hq (rdx_of hp)) rfl rfl ?_
   rintro r w ⟨y,p2,f2,hv,hI2,rfl,hm⟩
   replace hp:=hp.via (j:=0) rfl hm
   dsimp only [List.set] at hp
   clear hm
   refine ⟨_,rfl,?_⟩
   rw [lft_int] at hI2
   have hy32:y.toNat < 4294967296:=y.toNat_lt
   ((conv=>whnf);repeat' ((first|((with_reducible apply ar_id);first|(refine ar_n (5) (by omega) (by omega) ?_)|refine ar_i64 (by omega) ?_)|((with_reducible apply cn_id);refine cn rfl ?_)|((with_reducible apply st_id);apply st_hs hp;(focus repeat' constructor);exact rfl;exact rfl;clear hp;intro w hp;(try dsimp only [List.set] at hp)))<;>(conv=>whnf)))
   exact lp_next (5,(⟨x1,x2,x3,x4,(y.toNat:Int),0⟩:Cfg),p2,f2,_) (by show 6 - 5 < 6 - 4;omega) (by (repeat' (first|exact trivial|(refine ⟨rfl,?_⟩)))) ⟨by show 5≤6;omega,by show CfR _ 5 _ _;rw [CfR];exact ⟨_,_,_,_,_,rfl,h1,h2,h3,h4,rv_int hv,rfl⟩,hI2,hp⟩
  ·obtain ⟨x1,x2,x3,x4,x5,rfl,h1,h2,h3,h4,h5,rfl⟩:=hC
   ((conv=>whnf);repeat' ((first|((with_reducible apply br_id);(with_reducible refine br_dec (fun hx=>?_) (fun hx=>?_))<;>(try (exfalso;first|omega|contradiction)))|((with_reducible apply ld_id);apply ld_hs hp;(focus repeat' constructor);exact rfl)|((with_reducible apply gen_id);(refine gen_arx (f:=fun z:Nat=>.pointer (some ⟨b5,z,none⟩)) (l:= [0,1,2,3,4,5]) rfl u6 rfl rfl rfl (by omega) 5 (by omega) rfl ?_)))<;>(conv=>whnf)))
   refine cl_eq (cd1_any hI hq (rdx_of hp)) rfl rfl ?_
   rintro r w ⟨y,p2,f2,hv,hI2,rfl,hm⟩
   replace hp:=hp.via (j:=0) rfl hm
   dsimp only [List.set] at hp
   clear hm
   refine ⟨_,rfl,?_⟩
   rw [lft_int] at hI2
   have hy32:y.toNat < 4294967296:=y.toNat_lt
   ((conv=>whnf);repeat' ((first|((with_reducible apply ar_id);first|(refine ar_n (6) (by omega) (by omega) ?_)|refine ar_i64 (by omega) ?_)|((with_reducible apply cn_id);refine cn rfl ?_)|((with_reducible apply st_id);apply st_hs hp;(focus repeat' constructor);exact rfl;exact rfl;clear hp;intro w hp;(try dsimp only [List.set] at hp)))<;>(conv=>whnf)))
   exact lp_next (6,(⟨x1,x2,x3,x4,x5,(y.toNat:Int)⟩:Cfg),p2,f2,_) (by show 6 - 6 < 6 - 5;omega) (by (repeat' (first|exact trivial|(refine ⟨rfl,?_⟩)))) ⟨by show 6≤6;omega,by show CfR _ 6 _ _;rw [CfR];exact ⟨rv_map (rv_seq h1 (rv_seq h2 (rv_seq h3 (rv_seq h4 (rv_seq h5 (rv_int hv)))))),(lft_map.trans (lft_seq.trans (lft_seq.trans (lft_seq.trans (lft_seq.trans lft_seq))))).symm⟩,hI2,hp⟩
 ·obtain rfl:i=6:=by omega
  obtain ⟨hcv,hs1⟩:=hC
  ((conv=>whnf);repeat' (((with_reducible apply br_id);(with_reducible refine br_dec (fun hx=>?_) (fun hx=>?_))<;>(try (exfalso;first|omega|contradiction)))<;>(conv=>whnf)))
  refine dr_cut (fun e w=>∃(ht nx:UInt32) (N p2:Nat) (f2:Flt) (e0:Nat→Value),e=eat [(1,ptr pr),(2,ptr b2),(3,ptr pn),(4,ptr pk),(5,ptr b5)] ⟨e0, []⟩∧(Rv (rdR u32C.dec s1) ht∧Rv (rdR N1.dec (lft (rdR u32C.dec s1))) N∧Rv (rdR u32C.dec (lft (rdR N1.dec (lft (rdR u32C.dec s1))))) nx)∧RdI q.l p2 (badE f2) (lft (rdR u32C.dec (lft (rdR N1.dec (lft (rdR u32C.dec s1))))))∧Hp (star (rdRs b q p f)).dom w0 w [star (rdRs b q p2 f2),cel pr 63 #[ptr b],cel pn 123 #[fnV pr],cel pk 125 #[fkV pr],cel b5 31 (Sta.c ⟨c,ht,(N:Int),nx,Sl.nil,Sl.nil,Sl.nil,Sl.nil⟩).toArray,cel b2 31 (Sta.c Sta.z).toArray]) ?_ ?_
  ·refine dr_autoi [0,2,5] (fun w=>w.cell? ⟨pn,0,none⟩=some (fnV pr)∧w.cell? ⟨pr,0,none⟩=some (ptr b)) tabOk (by kernel_rfl) (by decide+kernel) rfl ⟨(rdx_of hp.drew).cn,(rdx_of hp.drew).cr⟩ ?_
   replace hp:=hp.drew
   ((conv=>whnf);repeat' ((first|((with_reducible apply ar_id);refine ar_i64 (by omega) ?_)|((with_reducible apply cn_id);first|(refine cn ⟨(rdx_of hp).cn,(rdx_of hp).cr⟩ ?_)|refine cn rfl ?_)|((with_reducible apply st_id);apply st_hs hp;(focus repeat' constructor);exact rfl;exact rfl;clear hp;intro w hp;(try dsimp only [List.set] at hp))|((with_reducible apply fk_id);refine fk_mk ?_ ?_)|((with_reducible apply cl_id);first|((refine cl_eq (cd1_any hI hq (rdx_of hp)) rfl rfl ?_;rintro r w ⟨y1,p2,f2,hv1,hI2,rfl,hm⟩;replace hp:=hp.via (j:=0) rfl hm;dsimp only [List.set] at hp;clear hm;refine ⟨_,rfl,?_⟩;refine cn ⟨(rdx_of hp).cn,(rdx_of hp).cr⟩ ?_))|((refine cl_eq (rnumI_any 1 N1 (fun _=>rfl) (by omega) hI2 hq (hp.get (j:=0) rfl)) rfl rfl ?_;rintro r w ⟨N,p3,f3,hv2,h256,hI3,rfl,hm⟩;replace hp:=hp.via (j:=0) rfl hm;dsimp only [List.set] at hp;clear hm;have hN:N < 256:=h256;clear h256;refine ⟨_,rfl,?_⟩;refine cn ⟨(rdx_of hp).cn,(rdx_of hp).cr⟩ ?_))|((refine cl_eq (cd1_any hI3 hq (rdx_of hp)) rfl rfl ?_;rintro r w ⟨y3,p4,f4,hv3,hI4,rfl,hm⟩;replace hp:=hp.via (j:=0) rfl hm;dsimp only [List.set] at hp;clear hm;refine ⟨_,rfl,?_⟩;refine cn ⟨(rdx_of hp).cn,(rdx_of hp).cr⟩ ?_)))|((with_reducible apply li_id);first|((refine li_of (fun w h=>h.1) ?_))|((refine li_of (fun w h=>h.2) ?_))))<;>(conv=>whnf)))
   all_goals exact ⟨y1,y3,N,p4,f4,_,eat_holds (by (repeat' (first|exact trivial|(refine ⟨rfl,?_⟩)))),⟨hv1,hv2,hv3⟩,hI4,hp⟩
  clear hp hI
  rintro e w ⟨ht,nx,N,p2,f2,e0,rfl,⟨hv1,hv2,hv3⟩,hI,hp⟩
  have hlh:∀s,lft (rdR N1.dec s)=lft (rdR haltC.dec s):=fun s=>lft_map.symm
  rw [hlh] at hv3 hI
  replace hv2:Rv (rdR haltC.dec (lft (rdR u32C.dec s1))) (N:Int):=rv_map hv2
  subst hs1
  ((conv=>whnf);repeat' ((first|((with_reducible apply ld_id);apply ld_hs hp;(focus repeat' constructor);exact rfl)|((with_reducible apply gen_id);(refine gen_mkf rfl (v:= .func (.func 68) #[] #[ptr pk,ptr pr]) rfl ?_)))<;>(conv=>whnf)))
  refine cl_eq (tk1_any hI hq (rdx_of hp)) rfl rfl ?_
  clear hI
  rintro r w ⟨W,p3,f3,hvW,hnW,hI,rfl,hm⟩
  replace hp:=hp.via (j:=0) rfl hm
  dsimp only [List.set] at hp
  clear hm
  refine ⟨_,rfl,?_⟩
  replace hp:=hp.outR.pick (rs':= [_,_,_,_,_,_,_]) [0,2,3,4,5,6,1] (by decide) rfl
  ((conv=>whnf);repeat' ((first|((with_reducible apply cn_id);refine cn rfl ?_)|((with_reducible apply ld_id);apply ld_hs hp;(focus repeat' constructor);exact rfl)|((with_reducible apply st_id);apply st_hs hp;(focus repeat' constructor);exact rfl;exact rfl;clear hp;intro w hp;(try dsimp only [List.set] at hp))|((with_reducible apply gen_id);(refine gen_mkf rfl (v:= .func (.func 73) #[] #[ptr pn]) rfl ?_)))<;>(conv=>whnf)))
  refine cl_eq (tk2_any hI hq (rdx_of hp)) rfl rfl ?_
  clear hI
  rintro r w ⟨S,p4,f4,hvS,hnS,hI,rfl,hm⟩
  replace hp:=hp.via (j:=0) rfl hm
  dsimp only [List.set] at hp
  clear hm
  refine ⟨_,rfl,?_⟩
  replace hp:=hp.outR.pick (rs':= [_,_,_,_,_,_,_,_]) [0,2,3,4,5,6,7,1] (by decide) rfl
  ((conv=>whnf);repeat' ((first|((with_reducible apply cn_id);refine cn rfl ?_)|((with_reducible apply ld_id);apply ld_hs hp;(focus repeat' constructor);exact rfl)|((with_reducible apply st_id);apply st_hs hp;(focus repeat' constructor);exact rfl;exact rfl;clear hp;intro w hp;(try dsimp only [List.set] at hp))|((with_reducible apply gen_id);(refine gen_mkf rfl (v:= .func (.func 75) #[] #[ptr pn,ptr pr,ptr pk]) rfl ?_)))<;>(conv=>whnf)))
  refine cl_eq (tk3_any hI hq (rdx_of hp)) rfl rfl ?_
  clear hI
  rintro r w ⟨V,p5,f5,hvV,hnV,hI,rfl,hm⟩
  replace hp:=hp.via (j:=0) rfl hm
  dsimp only [List.set] at hp
  clear hm
  refine ⟨_,rfl,?_⟩
  replace hp:=hp.outR.pick (rs':= [_,_,_,_,_,_,_,_,_]) [0,2,3,4,5,6,7,8,1] (by decide) rfl
  ((conv=>whnf);repeat' ((first|((with_reducible apply cn_id);refine cn rfl ?_)|((with_reducible apply ld_id);apply ld_hs hp;(focus repeat' constructor);exact rfl)|((with_reducible apply st_id);apply st_hs hp;(focus repeat' constructor);exact rfl;exact rfl;clear hp;intro w hp;(try dsimp only [List.set] at hp))|((with_reducible apply gen_id);(refine gen_mkf rfl (v:= .func (.func 78) #[] #[ptr pn,ptr pr,ptr pk]) rfl ?_)))<;>(conv=>whnf)))
  refine cl_eq (tk4_any hI hq (rdx_of hp)) rfl rfl ?_
  clear hI
  rintro r w ⟨J,p6,f6,hvJ,hnJ,hI,rfl,hm⟩
  replace hp:=hp.via (j:=0) rfl hm
  dsimp only [List.set] at hp
  clear hm
  refine ⟨_,rfl,?_⟩
  replace hp:=hp.outR.pick (rs':= [_,_,_,_,_,_,_,_,_,_]) [0,2,3,4,5,6,7,8,9,1] (by decide) rfl
  have hv:Rv (rdR staC.dec s) (Sta.p ⟨c,ht,N,nx,W,S,V,J⟩):=rv_map (rv_seq hcv (rv_seq hv1 (rv_seq hv2 (rv_seq hv3 (rv_seq hvW (rv_seq hvS (rv_seq hvV hvJ)))))))
  have hl:lft (rdR staC.dec s)=_:=lft_map.trans (lft_seq.trans (lft_seq.trans (lft_seq.trans (lft_seq.trans (lft_seq.trans (lft_seq.trans lft_seq))))))
  rw [←hl] at hI
  ((conv=>whnf);repeat' ((first|((with_reducible apply cn_id);refine cn rfl ?_)|((with_reducible apply ldn_id);apply lda_hs hp;(focus repeat' constructor);exact rfl)|((with_reducible apply st_id);first|(apply sta_hs hp;(focus repeat' constructor);exact rfl;exact rfl;clear hp;intro w hp;(try dsimp only [List.set] at hp))|(apply st_hs hp;(focus repeat' constructor);exact rfl;exact rfl;clear hp;intro w hp;(try dsimp only [List.set] at hp))))<;>(conv=>whnf)))
  exact ps_val (v':=Sta.v ⟨c,ht,N,nx,W,S,V,J⟩) rfl ⟨⟨c,ht,N,nx,W,S,V,J⟩,p6,f6,hv,hI,rfl,((hp.pick (rs':= [_,_,_,_,_]) [6,7,8,9,0] (by decide) rfl).fold 4).give⟩
end
set_option maxHeartbeats 2000000
structure RAt (B:Nat) (w:World) (L:Sl Blk):Prop where
 row:SlAt B w Blk.c 65 L
 tx:∀b∈L.l,SlAt B w Id.c 32 b.tx
end Go.Proofs.YtpbapnlnheahnaaGreatDoor
