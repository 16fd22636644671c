/- MImprintReads32: parts of the proof of ImprintReads: Rdr2, Blk3, Rdr3, Rdr4. No condition of their own. -/
import Derived.Test.YtpbapnlnheahnaaGreatDoorMImprintReads31
import Derived.Test.YtpbapnlnheahnaaGreatDoorMImprintReads21
set_option linter.unusedSimpArgs false
set_option linter.unusedVariables false
namespace Go.Proofs.YtpbapnlnheahnaaGreatDoor
open Go.RowKit Go.Stop
set_option maxRecDepth 100000
set_option maxHeartbeats 500000
theorem num_fix {n:Nat} {C:Cdc Nat} (hC:∀l,C.dec l=if l.length < n then .error 2 else .ok (numV (l.take n),l.drop n)) {s:Rst}:lft (rdR (fixC n).dec s)=lft (rdR C.dec s)∧∀x,Rv (rdR (fixC n).dec s) x→Rv (rdR C.dec s) (numV x):=by
 cases s with
 |error e=>exact ⟨rfl,fun x h a r he=>by cases he⟩
 |ok l=>
  have hf:(fixC n).dec l=if l.length < n then .error 2 else .ok (l.take n,l.drop n):=rfl
  show lft ((fixC n).dec l)=lft (C.dec l)∧∀x,Rv ((fixC n).dec l) x→Rv (C.dec l) (numV x)
  rw [hC,hf]
  by_cases hl:l.length < n
  ·rw [if_pos hl,if_pos hl]
   exact ⟨rfl,fun x h a r he=>by cases he⟩
  ·rw [if_neg hl,if_neg hl]
   refine ⟨rfl,fun x h a r he=>?_⟩
   cases he
   rw [h _ _ rfl]
def PcR:Rst→List UInt32→Rst→Prop
 |s, [],s'=>s'=s
 |s,x::L,s'=>Rv (rdR u32C.dec s) x∧PcR (lft (rdR u32C.dec s)) L s'
theorem PcR.snoc:∀{L:List UInt32} {s s1:Rst} {x:UInt32},PcR s L s1→Rv (rdR u32C.dec s1) x→PcR s (L++ [x]) (lft (rdR u32C.dec s1))
 | [],s,s1,x,h,hx=>by
  have h:s1=s:=h
  subst h
  exact ⟨hx,rfl⟩
 |y::L,s,s1,x,h,hx=>by
  obtain ⟨h1,h2⟩:=h
  exact ⟨h1,h2.snoc hx⟩
theorem ar_un10 {n:Int} (k:Nat) (h:n=k) (hk:k < 1099511627776) {f:Int→Prop} (hf:f (k:Int)):Ar .u64 n f:=ar_u64 (by omega) (h▸hf)
section
variable {w0 : World} {p B : Nat} {q : Sl UInt8} {s : Rst}
theorem rNum9_any (n:Nat) (C:Cdc Nat) (hC:∀l,C.dec l=if l.length < n then .error 2 else .ok (numV (l.take n),l.drop n)) (hn:1≤n∧n≤4) (hI:RdD q.l p s) (hq:q.l.length≤1000000) (h:SlAt B w0 u8L 1 q):Calls Tryz.prog 28 #[rv9 q p s,i64 n] w0 fun r w'=>
  ∃(x p':Nat),Rv (rdR C.dec s) x∧x < 256 ^ n∧RdD q.l p' (lft (rdR C.dec s))∧r= .returned (.tuple #[rv9 q p' (lft (rdR C.dec s)), .int .u64 (x:Nat)])∧Chg N0 w0 w':=by
 have hp:=Hp.start (S:=N0) w0
 have hB:∀b,N0 b→B≤b:=fun _ hh=>hh.elim
 have uy:=Tryz.underlying34
 obtain ⟨g1,g2⟩:=num_fix hC (s:=s)
 rw [←g1]
 refine calls_x (args:= [_,_]) tabOk Tryz.func28 Tryz.ntmps28 Tryz.results28 rfl (Nat.le_of_ble_eq_true rfl) ?_
 ((conv=>whnf);repeat' ((first|((with_reducible apply br_id);first|with_reducible refine br_f ?_|((with_reducible refine br_dec (fun hx=>?_) (fun hx=>?_))<;>(try (exfalso;first|omega|contradiction))))|((with_reducible apply ldn_id);apply lda_hs hp;(focus repeat' constructor);exact rfl)|((with_reducible apply al_id);refine al_cel hp ?_;clear hp;intro bb w hp))<;>(conv=>whnf)))
 refine cl_eq (rBytes9_any n (by omega) hI hq (h.keep hp.chg hB)) rfl rfl ?_
 rintro r w ⟨x,p',hat,hv,hxl, -,hI2,rfl,hcc⟩
 replace hp:=hp.call0 hcc
 clear hcc
 refine ⟨_,rfl,?_⟩
 replace hv:=g2 _ hv
 obtain ⟨S2,hS2⟩:∃S2,lft (rdR (fixC n).dec s)=S2:=⟨_,rfl⟩
 rw [hS2] at hI2 ⊢
 clear hS2 g1 g2 hI
 replace hat:=fun {w:World} (hc:Chg N0 w0 w)=>hat B w (h.keep hc hB)
 ((conv=>whnf);repeat' ((first|((with_reducible apply cn_id);refine cn rfl ?_)|((with_reducible apply st_id);apply sta_hs hp;(focus repeat' constructor);exact rfl;exact rfl;clear hp;intro w hp;(try dsimp only [List.set] at hp)))<;>(conv=>whnf)))
 obtain ⟨b4,hb4⟩:∃b,b=bb:=⟨_,rfl⟩
 subst hb4
 obtain ⟨b2,hb2⟩:∃b,b=bb:=⟨_,rfl⟩
 subst hb2
 refine lp_inv (α:=Nat) (fun i=> [(2,ptr b2),(4,ptr b4),(6,x.v),(7, .int .u64 (numV (x.l.take i):Nat)),(8,i64 i)]) (fun i w=>i≤x.l.length∧Hp N0 w0 w [cel b4 72 #[.slice none 0 0,i64 0,i64 0],cel b2 72 (rc9 q p' S2)]) (fun i=>x.l.length - i) 0 (by (repeat' (first|exact trivial|(refine ⟨rfl,?_⟩)))) ⟨by omega,hp⟩ ?_
 clear hp
 rintro i e0 w ⟨hi,hp⟩
 rcases Nat.lt_or_ge i x.l.length with hlt|hge
 ·obtain ⟨bA,oA,z,hA,hbA,hrow,hxx⟩:=(hat (Chg.refl _ _)).has hlt
  have h56:numV (x.l.take i) < 2 ^ 24:=by
   have h1:=numV_lt (x.l.take i)
   have h2:(x.l.take i).length≤3:=by rw [List.length_take];omega
   have h3:256 ^ (x.l.take i).length≤256 ^ 3:=Nat.pow_le_pow_right (by omega) h2
   have h4:256 ^ 3=2 ^ 24:=by decide
   omega
  have hx8:=z.toNat_lt
  have hsn:numV (x.l.take (i+1))=numV (x.l.take i)*256+z.toNat:=by rw [List.take_add_one,hxx];exact numV_snoc _ _
  obtain ⟨N,hN⟩:∃N,numV (x.l.take i)=N:=⟨_,rfl⟩
  rw [hN] at h56 hsn ⊢
  ((conv=>whnf);repeat' ((first|((with_reducible apply br_id);(with_reducible refine br_dec (fun hx=>?_) (fun hx=>?_))<;>(try (exfalso;first|omega|contradiction)))|((with_reducible apply ar_id);first|(refine ar_n (i+1) (by omega) (by omega) ?_)|(refine ar_un10 (256*N) (by omega) (by omega) ?_)|(refine ar_un10 (N*256+z.toNat) (by omega) (by omega) ?_)|refine ar_u64 (by omega) ?_)|((with_reducible apply ld_id);(refine ld_row0 hp hB ‹_› ‹_› _ rfl ‹_› (by rfl) ?_))|((with_reducible apply gen_id);first|(refine gen_ixs rfl rfl ‹_› rfl rfl (by omega) ?_)|(apply gen_len;exact rfl;exact rfl;assumption)))<;>(conv=>whnf)))
  exact lp_next (i+1) (by omega) (by rw [hsn];(repeat' (first|exact trivial|(refine ⟨rfl,?_⟩)))) ⟨by omega,hp⟩
 ·rw [List.take_of_length_le hge]
  ((conv=>whnf);repeat' ((first|((with_reducible apply br_id);(with_reducible refine br_dec (fun hx=>?_) (fun hx=>?_))<;>(try (exfalso;first|omega|contradiction)))|((with_reducible apply cn_id);refine cn rfl ?_)|((with_reducible apply ldn_id);apply lda_hs hp;(focus repeat' constructor);exact rfl)|((with_reducible apply st_id);apply sta_hs hp;(focus repeat' constructor);exact rfl;exact rfl;clear hp;intro w hp;(try dsimp only [List.set] at hp))|((with_reducible apply gen_id);apply gen_len;exact rfl;exact rfl;assumption))<;>(conv=>whnf)))
  have h1:=numV_lt x.l
  have h3:256 ^ x.l.length≤256 ^ n:=Nat.pow_le_pow_right (by omega) hxl
  exact ps_val (v':= .tuple #[rv9 q p' S2, .int .u64 (numV x.l:Nat)]) rfl ⟨numV x.l,p',hv,by omega,hI2,rfl,hp.chg⟩
theorem rpiece_any (n:Nat) (hn:n≤100) (hI:RdD q.l p s) (hq:q.l.length≤1000000) (h:SlAt B w0 u8L 1 q):Calls Tryz.prog 27 #[rv9 q p s,i64 n] w0 fun r w'=>
  ∃(L:Sl UInt32) (p':Nat) (s':Rst),L.l.length=n∧PcR s L.l s'∧RdD q.l p' s'∧r= .returned (.tuple #[rv9 q p' s',L.v])∧Made (rowR 24 1 u4L L) w0 w':=by
 have hp:=Hp.start (S:=N0) w0
 have hB:∀b,N0 b→B≤b:=fun _ hh=>hh.elim
 refine calls_x (args:= [_,_]) tabOk Tryz.func27 Tryz.ntmps27 Tryz.results27 rfl (Nat.le_of_ble_eq_true rfl) ?_
 ((conv=>whnf);repeat' (((with_reducible apply al_id);refine al_cel hp ?_;clear hp;intro bb w hp)<;>(conv=>whnf)))
 obtain ⟨b4,hb4⟩:∃b,b=bb:=⟨_,rfl⟩
 subst hb4
 obtain ⟨b2,hb2⟩:∃b,b=bb:=⟨_,rfl⟩
 subst hb2
 refine lp_inv (α:=Nat×Sl UInt32×Nat×Rst) (fun a=> [(1,i64 n),(2,ptr b2),(4,ptr b4),(6,a.2.1.v),(7,i64 a.1)]) (fun a w=>a.1≤n∧a.2.1.l.length=a.1∧PcR s a.2.1.l a.2.2.2∧RdD q.l a.2.2.1 a.2.2.2∧Hp N0 w0 w [rowR 24 1 u4L a.2.1,cel b4 72 #[.slice none 0 0,i64 0,i64 0],cel b2 72 (rc9 q a.2.2.1 a.2.2.2)]) (fun a=>n - a.1) (0,Sl.nil,p,s) (by (repeat' (first|exact trivial|(refine ⟨rfl,?_⟩)))) ⟨by omega,rfl,rfl,hI,hp.nilRow 24 1 u4L⟩ ?_
 clear hp hI
 rintro ⟨i,out,p1,s1⟩ e0 w ⟨hi,hol,hpc,hI,hp⟩
 dsimp only at hi hol hpc hI hp ⊢
 rcases Nat.lt_or_ge i n with hlt|hge
 ·((conv=>whnf);repeat' ((first|((with_reducible apply br_id);(with_reducible refine br_dec (fun hx=>?_) (fun hx=>?_))<;>(try (exfalso;first|omega|contradiction)))|((with_reducible apply ldn_id);apply lda_hs hp;(focus repeat' constructor);exact rfl))<;>(conv=>whnf)))
  refine cl_eq (rNum9_any 4 N4 (fun _=>rfl) (by omega) hI hq (h.keep hp.chg hB)) rfl rfl ?_
  rintro r w ⟨N,p2,hv,h256,hI2,rfl,hcc⟩
  replace hp:=hp.call0 hcc
  clear hcc
  refine ⟨_,rfl,?_⟩
  have h32:N < 4294967296:=h256
  have hv:Rv (rdR u32C.dec s1) (UInt32.ofNat N):=rv_map hv
  have hl:lft (rdR u32C.dec s1)=lft (rdR N4.dec s1):=lft_map
  rw [←hl] at hI2 ⊢
  obtain ⟨x,hx,hxN⟩:∃x:UInt32,x=UInt32.ofNat N∧(N:Int)=(x.toNat:Int):=⟨_,rfl,by rw [UInt32.toNat_ofNat_of_lt' (by simpa using h32)]⟩
  rw [←hx] at hv
  have hpc2:=hpc.snoc hv
  ((conv=>whnf);repeat' ((first|((with_reducible apply ar_id);first|(refine ar_n (i+1) (by omega) (by omega) ?_)|(refine ar_eq32 hxN (by omega) ?_))|((with_reducible apply cn_id);refine cn rfl ?_)|((with_reducible apply ldn_id);apply lda_hs hp;(focus repeat' constructor);exact rfl)|((with_reducible apply al_id);refine al_cel hp ?_;clear hp;intro bb w hp)|((with_reducible apply st_id);apply sta_hs hp;(focus repeat' constructor);exact rfl;exact rfl;clear hp;intro w hp;(try dsimp only [List.set] at hp))|((with_reducible apply gen_id);first|((refine gen_bs rfl hp el_u4 u4L (([x]:List UInt32)) ((([x]:List UInt32)).map u4) rfl rfl rfl (fun _ hh=>rfl) (by omega) ?_);clear hp;intro br w hp)|((refine gen_app (s:=out) rfl hp 2 rfl el_u4 rfl ⟨some ⟨br,0,none⟩,1,([x]:List UInt32)⟩ rfl (hp.row (j:=0) rfl) (fun _ _=>rfl) u4_one (by simp only [List.length_cons,List.length_nil];omega) (by simp only [maxLen,List.length_cons,List.length_nil];omega) ?_);clear hp;intro A2 c2 w hp;dsimp only [List.set] at hp)))<;>(conv=>whnf)))
  exact lp_next (i+1,(⟨A2,c2,out.l++ [x]⟩:Sl UInt32),p2,lft (rdR u32C.dec s1)) (by show n - (i+1) < n - i;omega) (by (repeat' (first|exact trivial|(refine ⟨rfl,?_⟩)))) ⟨by show i+1≤n;omega,by show (out.l++ [x]).length=i+1;rw [List.length_append,hol];rfl,hpc2,hI2,hp.pick [2,3,4] (by decide) rfl⟩
 ·((conv=>whnf);repeat' ((first|((with_reducible apply br_id);(with_reducible refine br_dec (fun hx=>?_) (fun hx=>?_))<;>(try (exfalso;first|omega|contradiction)))|((with_reducible apply cn_id);refine cn rfl ?_)|((with_reducible apply ldn_id);apply lda_hs hp;(focus repeat' constructor);exact rfl)|((with_reducible apply st_id);apply sta_hs hp;(focus repeat' constructor);exact rfl;exact rfl;clear hp;intro w hp;(try dsimp only [List.set] at hp)))<;>(conv=>whnf)))
  exact ps_val (v':= .tuple #[rv9 q p1 s1,out.v]) rfl ⟨out,p1,s1,by omega,hpc,hI,rfl,hp.made1 (j:=0) rfl⟩
theorem rpack_any (hI:RdD q.l p s) (hq:q.l.length≤1000000) (h:SlAt B w0 u8L 1 q):Calls Tryz.prog 86 #[rv9 q p s] w0 fun r w'=>
  ∃(x:Sl UInt8) (p':Nat),SubQ q x∧Rv (rdR (bytC N2).dec s) x.l∧x.l.length≤65535∧RdD q.l p' (lft (rdR (bytC N2).dec s))∧r= .returned (.tuple #[rv9 q p' (lft (rdR (bytC N2).dec s)),x.v])∧Chg N0 w0 w':=by
 have hp:=Hp.start (S:=N0) w0
 have hB:∀b,N0 b→B≤b:=fun _ hh=>hh.elim
 refine calls_x (args:= [_]) tabOk Tryz.func86 Tryz.ntmps86 Tryz.results86 rfl (Nat.le_of_ble_eq_true rfl) ?_
 ((conv=>whnf);repeat' ((first|((with_reducible apply ldn_id);apply lda_hs hp;(focus repeat' constructor);exact rfl)|((with_reducible apply al_id);refine al_cel hp ?_;clear hp;intro bb w hp))<;>(conv=>whnf)))
 refine cl_eq (rNum9_any 2 N2 (fun _=>rfl) (by omega) hI hq (h.keep hp.chg hB)) rfl rfl ?_
 rintro r w ⟨N,p2,hv,h256,hI2,rfl,hcc⟩
 replace hp:=hp.call0 hcc
 clear hcc
 refine ⟨_,rfl,?_⟩
 have h64:N < 65536:=h256
 ((conv=>whnf);repeat' ((first|((with_reducible apply ar_id);refine ar_i64 (by omega) ?_)|((with_reducible apply cn_id);refine cn rfl ?_)|((with_reducible apply ldn_id);apply lda_hs hp;(focus repeat' constructor);exact rfl)|((with_reducible apply st_id);apply sta_hs hp;(focus repeat' constructor);exact rfl;exact rfl;clear hp;intro w hp;(try dsimp only [List.set] at hp)))<;>(conv=>whnf)))
 refine cl_eq (rBytes9_any N (by omega) hI2 hq (h.keep hp.chg hB)) rfl rfl ?_
 rintro r w ⟨x,p3,hsub,hv2,hxl, -,hI3,rfl,hcc⟩
 replace hp:=hp.call0 hcc
 clear hcc
 refine ⟨_,rfl,?_⟩
 have hv3:=rv_byt hv hv2
 rw [←lft_byt hv] at hI3 ⊢
 ((conv=>whnf);repeat' ((first|((with_reducible apply cn_id);refine cn rfl ?_)|((with_reducible apply ldn_id);apply lda_hs hp;(focus repeat' constructor);exact rfl)|((with_reducible apply st_id);apply sta_hs hp;(focus repeat' constructor);exact rfl;exact rfl;clear hp;intro w hp;(try dsimp only [List.set] at hp)))<;>(conv=>whnf)))
 exact ps_val (v':= .tuple #[rv9 q p3 (lft (rdR (bytC N2).dec s)),x.v]) rfl ⟨x,p3,hsub,hv3,by omega,hI3,rfl,hp.chg⟩
end
set_option maxHeartbeats 2000000
theorem rightRef_any {B:Nat} {w0:World} {b:Blk} (h:SlAt B w0 Id.c 32 b.tx):Calls Tryz.prog 91 #[b.v] w0 fun e w'=>e= .returned (.bool (rightB b))∧Chg N0 w0 w':=by
 have hp:=Hp.start (S:=N0) w0
 have hB:∀b,N0 b→B≤b:=fun _ hh=>hh.elim
 have hmax:b.tx.l.length≤9223372036854775807:=by have:=h.le;have:=h.max;simp only [maxLen] at this;omega
 have u1:=Tryz.underlying49
 refine calls_x (args:= [_]) tabOk Tryz.func91 Tryz.ntmps91 Tryz.results91 rfl (Nat.le_of_ble_eq_true rfl) ?_
 ((conv=>whnf);repeat' (((with_reducible apply al_id);refine al_cel hp ?_;clear hp;intro bb w hp)<;>(conv=>whnf)))
 refine lp_inv (α:=Nat) (fun a=> [(1,ptr bb),(3,errno a)]) (fun a w=>a≤b.tx.l.length∧(b.tx.l.take a).Nodup∧Hp N0 w0 w [cel bb 51 b.c.toArray]) (fun a=>b.tx.l.length - a) 0 (by (repeat' (first|exact trivial|(refine ⟨rfl,?_⟩)))) ⟨by omega,by simp,hp⟩ ?_
 clear hp
 rintro i e0 w ⟨hi,hnd,hp⟩
 dsimp only at hi hnd hp ⊢
 rcases Nat.lt_or_ge i b.tx.l.length with hlt|hge
 ·obtain ⟨b1,o,x,hA,hb1,hrow,hxx⟩:=h.has hlt
  have htk:b.tx.l.take (i+1)=b.tx.l.take i++ [x]:=by rw [List.take_add_one,hxx];rfl
  ((conv=>whnf);repeat' ((first|((with_reducible apply br_id);(with_reducible refine br_dec (fun hx=>?_) (fun hx=>?_))<;>(try (exfalso;first|omega|contradiction)))|((with_reducible apply ld_id);apply ld_hs hp;(focus repeat' constructor);exact rfl)|((with_reducible apply gen_id);apply gen_len;exact rfl;exact rfl;assumption))<;>(conv=>whnf)))
  refine lp_inv (α:=Nat) (fun a=> [(1,ptr bb),(3,errno i),(4,errno a)]) (fun a w=>a≤i∧(∀y∈b.tx.l.take a,y≠x)∧Hp N0 w0 w [cel bb 51 b.c.toArray]) (fun a=>i - a) 0 (by (repeat' (first|exact trivial|(refine ⟨rfl,?_⟩)))) ⟨by omega,by simp,hp⟩ ?_
  clear hp
  rintro k e1 w ⟨hk,hne,hp⟩
  dsimp only at hk hne hp ⊢
  rcases Nat.lt_or_ge k i with hlt2|hge2
  ·have hyy:b.tx.l[k]? =some b.tx.l[k]:=List.getElem?_eq_getElem (by omega)
   generalize b.tx.l[k]=y at hyy
   ((conv=>whnf);repeat' ((first|((with_reducible apply br_id);first|((with_reducible refine br_dec (fun hx=>?_) (fun hx=>?_))<;>(try (exfalso;first|omega|contradiction)))|((with_reducible refine br_s (fun hx=>?_) (fun hx=>?_))<;>(try (exfalso;first|omega|contradiction))))|((with_reducible apply ar_id);refine ar_i64 (by omega) ?_)|((with_reducible apply ld_id);apply ld_hs hp;(focus repeat' constructor);exact rfl)|((with_reducible apply ldn_id);(refine ldn_rowx hp hB ‹_› ‹_› _ rfl ‹_› rfl ?_))|((with_reducible apply dr_id);refine dr_auto tabOk (by kernel_rfl) (by decide+kernel) ?_;(try replace hp:=hp.drew))|((with_reducible apply rd_id);first|(refine rd_ixs rfl rfl ‹_› rfl rfl (by omega) ?_)|(refine rd_eqa rfl rfl rfl (eq_id y x) (by kernel_rfl) (.inl rfl) ?_)))<;>(conv=>whnf)))
   ·refine ps_val (v':= .bool false) rfl ⟨?_,hp.chg⟩
    have hyx:y=x:=by simpa using hx
    have h1:rightB b=false:=by
     unfold rightB
     have:x∈b.tx.l.take i:=by
      rw [←hyx]
      refine List.mem_of_getElem? (i:=k) ?_
      rw [List.getElem?_take_of_lt hlt2,hyy]
     rw [decide_eq_false (dup_of hxx this),Bool.and_false]
    rw [h1]
   ·refine lp_next (k+1) ?_ (by (repeat' (first|exact trivial|(refine ⟨rfl,?_⟩)))) ⟨by omega,?_,hp⟩
    ·show i - (k+1) < i - k;omega
    ·intro z hz
     rw [List.take_add_one,hyy] at hz
     rcases List.mem_append.1 hz with hz|hz
     ·exact hne z hz
     ·simp at hz
      subst hz
      simpa using hx
  ·((conv=>whnf);repeat' ((first|((with_reducible apply br_id);(with_reducible refine br_dec (fun hx=>?_) (fun hx=>?_))<;>(try (exfalso;first|omega|contradiction)))|((with_reducible apply ar_id);refine ar_i64 (by omega) ?_))<;>(conv=>whnf)))
   obtain rfl:k=i:=by omega
   refine lp_next (k+1) ?_ (by (repeat' (first|exact trivial|(refine ⟨rfl,?_⟩)))) ⟨by omega,?_,hp⟩
   ·show b.tx.l.length - (k+1) < b.tx.l.length - k;omega
   ·rw [htk]
    exact nodup_next hnd fun hh=>hne x hh rfl
 ·rw [List.take_of_length_le hge] at hnd
  ((conv=>whnf);repeat' ((first|((with_reducible apply br_id);first|with_reducible refine br_t ?_|with_reducible refine br_f ?_|((with_reducible refine br_dec (fun hx=>?_) (fun hx=>?_))<;>(try (exfalso;first|omega|contradiction))))|((with_reducible apply ld_id);apply ld_hs hp;(focus repeat' constructor);exact rfl)|((with_reducible apply ldn_id);apply ldn_hs hp;(focus repeat' constructor);exact rfl;exact rfl)|((with_reducible apply gen_id);first|(refine gen_eqa rfl rfl rfl (eq_id b.hash b.parent) (by kernel_rfl) (.inr rfl) ?_)|(apply gen_len;exact rfl;exact rfl;assumption)))<;>(conv=>whnf)))
  ·refine ps_val (v':= .bool (!decide (b.hash=b.parent))) rfl ⟨?_,hp.chg⟩
   have h1:rightB b=(!decide (b.hash=b.parent)):=by
    unfold rightB
    rw [decide_eq_true hnd,Bool.and_true,decide_eq_true (show b.tx.l.length≤32 by omega),Bool.true_and]
   rw [h1]
  ·refine ps_val (v':= .bool false) rfl ⟨?_,hp.chg⟩
   have h1:rightB b=false:=by
    unfold rightB
    rw [decide_eq_false (show ¬b.tx.l.length≤32 by omega)]
    rfl
   rw [h1]
theorem same09_any {B:Nat} {w0:World} {s r:Sl Id} (h:SlAt B w0 Id.c 32 s) (h':SlAt B w0 Id.c 32 r):Calls Tryz.prog 122 #[s.v,r.v] w0 fun e w'=>e= .returned (.bool (decide (s.l=r.l)))∧Chg N0 w0 w':=by
 have hp:=Hp.start (S:=N0) w0
 have hB:∀b,N0 b→B≤b:=fun _ hh=>hh.elim
 have hmax:s.l.length≤9223372036854775807:=by have:=h.le;have:=h.max;simp only [maxLen] at this;omega
 have hmax':r.l.length≤9223372036854775807:=by have:=h'.le;have:=h'.max;simp only [maxLen] at this;omega
 have u1:=Tryz.underlying49
 refine calls_x (args:= [_,_]) tabOk Tryz.func122 Tryz.ntmps122 Tryz.results122 rfl (Nat.le_of_ble_eq_true rfl) ?_
 ((conv=>whnf);repeat' ((first|((with_reducible apply br_id);(with_reducible refine br_ne (fun hx=>?_) (fun hx=>?_))<;>(try (exfalso;first|omega|contradiction)))|((with_reducible apply gen_id);apply gen_len;exact rfl;exact rfl;assumption))<;>(conv=>whnf)))
 ·have hne:¬s.l=r.l:=fun e=>by rw [e] at hx;exact hx rfl
  refine ps_val (v':= .bool false) rfl ⟨?_,hp.chg⟩
  rw [decide_eq_false hne]
 have hll:s.l.length=r.l.length:=by omega
 refine lp_inv (α:=Nat) (fun a=> [(0,s.v),(1,r.v),(5,errno a)]) (fun a w=>a≤s.l.length∧s.l.take a=r.l.take a∧Chg N0 w0 w) (fun a=>s.l.length - a) 0 (by (repeat' (first|exact trivial|(refine ⟨rfl,?_⟩)))) ⟨by omega,by simp,hp.chg⟩ ?_
 clear hp
 rintro i e0 w ⟨hi,heq,hc⟩
 dsimp only at hi heq hc ⊢
 have hp:=(Hp.start (S:=N0) w0).call0 hc
 rcases Nat.lt_or_ge i s.l.length with hlt|hge
 ·obtain ⟨b,o,x,hA,hb,hrow,hxx⟩:=h.has hlt
  obtain ⟨b',o',x',hA',hb',hrow',hxx'⟩:=h'.has (i:=i) (by omega)
  ((conv=>whnf);repeat' ((first|((with_reducible apply br_id);first|((with_reducible refine br_dec (fun hx=>?_) (fun hx=>?_))<;>(try (exfalso;first|omega|contradiction)))|((with_reducible refine br_s (fun hx=>?_) (fun hx=>?_))<;>(try (exfalso;first|omega|contradiction))))|((with_reducible apply ar_id);refine ar_i64 (by omega) ?_)|((with_reducible apply ldn_id);first|(refine ldn_rowx hp hB hb hrow _ rfl hxx rfl ?_)|(refine ldn_rowx hp hB hb' hrow' _ rfl hxx' rfl ?_))|((with_reducible apply gen_id);apply gen_len;exact rfl;exact rfl;assumption)|((with_reducible apply dr_id);refine dr_auto tabOk (by kernel_rfl) (by decide+kernel) ?_;(try replace hp:=hp.drew))|((with_reducible apply rd_id);first|(refine rd_ixs rfl rfl hA rfl rfl (by omega) ?_)|(refine rd_ixs rfl rfl hA' rfl rfl (by omega) ?_)|(refine rd_eqa rfl rfl rfl (eq_id x x') (by kernel_rfl) (.inr rfl) ?_)))<;>(conv=>whnf)))
  ·have hne:¬s.l=r.l:=fun e=>by
    rw [e,hxx'] at hxx
    cases hxx
    simp at hx
   refine ps_val (v':= .bool false) rfl ⟨?_,hp.chg⟩
   rw [decide_eq_false hne]
  ·refine lp_next (i+1) ?_ (by (repeat' (first|exact trivial|(refine ⟨rfl,?_⟩)))) ⟨by omega,?_,hp.chg⟩
   ·show s.l.length - (i+1) < s.l.length - i;omega
   ·have hxe:x=x':=by simpa using hx
    rw [List.take_add_one,List.take_add_one,heq,hxx,hxx',hxe]
 ·((conv=>whnf);repeat' ((first|((with_reducible apply br_id);(with_reducible refine br_dec (fun hx=>?_) (fun hx=>?_))<;>(try (exfalso;first|omega|contradiction)))|((with_reducible apply gen_id);apply gen_len;exact rfl;exact rfl;assumption))<;>(conv=>whnf)))
  have he:s.l=r.l:=by
   rw [List.take_of_length_le hge,List.take_of_length_le (by omega)] at heq
   exact heq
  refine ps_val (v':= .bool true) rfl ⟨?_,hp.chg⟩
  rw [decide_eq_true he]
def sameBlk (a b:Blk):Bool:=decide (a.hash=b.hash) && (decide (a.parent=b.parent) && decide (a.tx.l=b.tx.l))
theorem sameBlk_any {B:Nat} {w0:World} {a b:Blk} (h:SlAt B w0 Id.c 32 a.tx) (h':SlAt B w0 Id.c 32 b.tx):Calls Tryz.prog 82 #[a.v,b.v] w0 fun e w'=>e= .returned (.bool (sameBlk a b))∧Chg N0 w0 w':=by
 have hp:=Hp.start (S:=N0) w0
 have hB:∀b,N0 b→B≤b:=fun _ hh=>hh.elim
 have u1:=Tryz.underlying49
 refine calls_x (args:= [_,_]) tabOk Tryz.func82 Tryz.ntmps82 Tryz.results82 rfl (Nat.le_of_ble_eq_true rfl) ?_
 ((conv=>whnf);repeat' ((first|((with_reducible apply br_id);first|with_reducible refine br_t ?_|with_reducible refine br_f ?_|((with_reducible refine br_s (fun hx=>?_) (fun hx=>?_))<;>(try (exfalso;first|omega|contradiction))))|((with_reducible apply ld_id);apply ld_hs hp;(focus repeat' constructor);exact rfl)|((with_reducible apply ldn_id);apply ldn_hs hp;(focus repeat' constructor);exact rfl;exact rfl)|((with_reducible apply al_id);refine al_cel hp ?_;clear hp;intro bb w hp)|((with_reducible apply gen_id);first|(refine gen_eqa rfl rfl rfl (eq_id a.hash b.hash) (by kernel_rfl) (.inl rfl) ?_)|(refine gen_eqa rfl rfl rfl (eq_id a.parent b.parent) (by kernel_rfl) (.inl rfl) ?_)))<;>(conv=>whnf)))
 ·refine cl_of (same09_any (h.keep hp.chg hB) (h'.keep hp.chg hB)) ?_
  rintro e w ⟨rfl,hc⟩
  replace hp:=hp.call0 hc
  refine ⟨_,rfl,?_⟩
  ((conv=>whnf);repeat' (((with_reducible apply br_id);with_reducible refine br_t ?_)<;>(conv=>whnf)))
  refine ps_val (v':= .bool (decide (a.tx.l=b.tx.l))) rfl ⟨?_,hp.chg⟩
  simp only [if_true,decide_eq_true_eq] at*
  simp [sameBlk, *]
 all_goals
  refine ps_val (v':= .bool false) rfl ⟨?_,hp.chg⟩
  simp only [if_true,decide_eq_true_eq,decide_eq_false_iff_not] at*
  simp [sameBlk, *]
set_option maxHeartbeats 500000
theorem arC_id {l:List UInt8} (h:l.length=32):arC u8 l=(Id.c (vecN 32 l)).toArray:=by
 rw [←idc_maps,vecN_list h]
theorem rid16_any {B:Nat} {w0:World} {s:Sl UInt8} (h:SlAt B w0 u8L 1 s) (k:Nat) (hk:k+32≤s.l.length) (hn:s.l.length≤1000000):Calls Tryz.prog 124 #[s.v,i64 k] w0 fun e w'=>e= .returned (Id.v (vecN 32 ((s.l.drop k).take 32)))∧Chg N0 w0 w':=by
 have hp:=Hp.start (S:=N0) w0
 have hB:∀b,N0 b→B≤b:=fun _ hh=>hh.elim
 obtain ⟨L,hL⟩:∃L,(s.l.drop k).take 32=L:=⟨_,rfl⟩
 have hLl:L.length=32:=by rw [←hL,List.length_take,List.length_drop];omega
 rw [hL]
 refine calls_x (args:= [_,_]) tabOk Tryz.func124 Tryz.ntmps124 Tryz.results124 rfl (Nat.le_of_ble_eq_true rfl) ?_
 ((conv=>whnf);repeat' (((with_reducible apply al_id);refine al_cel hp ?_;clear hp;intro bb w hp)<;>(conv=>whnf)))
 obtain ⟨b5,hb5⟩:∃b,b=bb:=⟨_,rfl⟩
 subst hb5
 obtain ⟨b4,hb4⟩:∃b,b=bb:=⟨_,rfl⟩
 subst hb4
 have hp0:Hp N0 w0 w [cel b5 48 (arC u8 (L.take 0++List.replicate (32 - 0) (0:UInt8))),cel b4 48 (rep 32 i_u8).cells]:=hp
 clear hp
 refine lp_inv (α:=Nat) (fun i=> [(0,s.v),(1,i64 k),(4,ptr b4),(5,ptr b5),(6,i64 i)]) (fun i w=>i≤32∧Hp N0 w0 w [cel b5 48 (arC u8 (L.take i++List.replicate (32 - i) (0:UInt8))),cel b4 48 (rep 32 i_u8).cells]) (fun i=>32 - i) 0 (by (repeat' (first|exact trivial|(refine ⟨rfl,?_⟩)))) ⟨by omega,hp0⟩ ?_
 clear hp0
 rintro i e0 w ⟨hi,hp⟩
 rcases Nat.lt_or_ge i 32 with hlt|hge
 ·obtain ⟨bA,oA,z,hA,hbA,hrow,hxx⟩:=h.has (i:=k+i) (by omega)
  have hz:L[i]? =some z:=by rw [←hL,List.getElem?_take_of_lt hlt,List.getElem?_drop,hxx]
  have hst:(L.take i++List.replicate (32 - i) (0:UInt8)).set i z=L.take (i+1)++List.replicate (32 - (i+1)) (0:UInt8):=by
   rw [show 32 - i=(32 - (i+1))+1 by omega,app_step (by rw [List.length_take];omega),List.take_add_one,hz]
   rfl
  have hll:i < (L.take i++List.replicate (32 - i) (0:UInt8)).length:=by rw [List.length_append,List.length_take,List.length_replicate];omega
  ((conv=>whnf);repeat' ((first|((with_reducible apply br_id);(with_reducible refine br_dec (fun hx=>?_) (fun hx=>?_))<;>(try (exfalso;first|omega|contradiction)))|((with_reducible apply ar_id);first|(refine ar_n (i+1) (by omega) (by omega) ?_)|(refine ar_n (k+i) (by omega) (by omega) ?_))|((with_reducible apply cn_id);refine cn rfl ?_)|((with_reducible apply ld_id);(refine ld_row0 hp hB ‹_› ‹_› _ rfl ‹_› (by rfl) ?_))|((with_reducible apply st_id);(refine st_arr hp 0 rfl (i) (ad1 _ _) (z) rfl hll rfl ?_);clear hp;intro w hp;dsimp only [List.set] at hp)|((with_reducible apply gen_id);first|(refine gen_ixs rfl rfl ‹_› rfl rfl (by omega) ?_)|(apply gen_ixa;exact rfl;exact rfl;exact rfl;exact rfl;omega)))<;>(conv=>whnf)))
  rw [hst] at hp
  exact lp_next (i+1) (by omega) (by (repeat' (first|exact trivial|(refine ⟨rfl,?_⟩)))) ⟨by omega,hp⟩
 ·obtain rfl:i=32:=by omega
  rw [Nat.sub_self,List.replicate_zero,List.append_nil,List.take_of_length_le (by omega),arC_id hLl] at hp
  ((conv=>whnf);repeat' ((first|((with_reducible apply br_id);(with_reducible refine br_dec (fun hx=>?_) (fun hx=>?_))<;>(try (exfalso;first|omega|contradiction)))|((with_reducible apply cn_id);refine cn rfl ?_)|((with_reducible apply ldn_id);apply lda_hs hp;(focus repeat' constructor);exact rfl)|((with_reducible apply st_id);apply sta_hs hp;(focus repeat' constructor);exact rfl;exact rfl;clear hp;intro w hp;(try dsimp only [List.set] at hp)))<;>(conv=>whnf)))
  exact ps_val (v':=Id.v (vecN 32 L)) rfl ⟨rfl,hp.chg⟩
theorem id_ok {l:Byt} (h:32≤l.length):rdR idC.dec (.ok l)= .ok (vecN 32 (l.take 32),l.drop 32):=by
 show idC.dec l=_
 rw [idC_dec,if_neg (by omega)]
theorem id_no {l:Byt} (h:l.length < 32):rdR idC.dec (.ok l)= .error 2:=by
 show idC.dec l=_
 rw [idC_dec,if_pos h]
theorem rv_of {α:Type} {d:Except Int (α×Byt)} {x:α} {r:Byt} (h:d= .ok (x,r)):Rv d x:=fun a r' he=>by
 rw [h] at he
 cases he
 rfl
theorem lft_err {α:Type} {d:Except Int (α×Byt)} {e:Int} (h:lft d= .error e):d= .error e:=by
 cases d with
 |error e'=>cases h;rfl
 |ok a=>cases h
theorem blk_err {l:Byt} {e:Int} (h:lft (rdR blkC.dec (.ok l))= .error e):blkF.dec l= .error e:=by
 have h1:blkC.dec l= .error e:=lft_err h
 have h2:=ful_end (C:=blkC) (p:=rightBP) (l:=l) (x:=⟨Id.z,Id.z, []⟩) (fun a r he=>by rw [h1] at he;cases he)
 rw [h1] at h2
 have h0:e≠0:=blkC.err _ _ h1
 exact h2.trans (if_neg h0)
theorem blk_lft {l:Byt}:lft (rdR blkC.dec (.ok l))=lft (rdR (lstC cntC idC).dec (lft (rdR idC.dec (lft (rdR idC.dec (.ok l)))))):=lft_map.trans (lft_seq.trans lft_seq)
theorem blk_65 {l:Byt} (h:l.length < 65):blkF.dec l= .error 2:=by
 refine blk_err (blk_lft.trans ?_)
 by_cases h1:l.length < 32
 ·rw [id_no h1]
  rfl
 ·rw [id_ok (by omega)]
  by_cases h2:(l.drop 32).length < 32
  ·rw [show lft (.ok (vecN 32 (l.take 32),l.drop 32))= .ok (l.drop 32) from rfl,id_no h2]
   rfl
  ·rw [show lft (.ok (vecN 32 (l.take 32),l.drop 32))= .ok (l.drop 32) from rfl,id_ok (by omega)]
   rw [List.length_drop] at h2
   have h3:rdR cntC.dec (lft (.ok (vecN 32 ((l.drop 32).take 32),(l.drop 32).drop 32)))= .error 2:=by
    refine lft_err ?_
    rw [lft_chk (C:=N1) (x:=0) (fun a r he=>?_)]
    ·show fld (lft (N1.dec ((l.drop 32).drop 32))) _=_
     rw [show N1.dec ((l.drop 32).drop 32)= .error 2 from if_pos (by rw [List.length_drop,List.length_drop];omega)]
     rfl
    ·have he:N1.dec ((l.drop 32).drop 32)= .ok (a,r):=he
     rw [show N1.dec ((l.drop 32).drop 32)= .error 2 from if_pos (by rw [List.length_drop,List.length_drop];omega)] at he
     cases he
   rw [lft_lst (n:=0) (fun a r he=>by rw [h3] at he;cases he),h3]
   rfl
theorem blk_cnt {l:Byt} {x:UInt8} (hx:l[64]? =some x):(lft (rdR idC.dec (lft (rdR idC.dec (.ok l))))= .ok (l.drop 64))∧rdR N1.dec (.ok (l.drop 64))= .ok (x.toNat,l.drop 65)∧Rv (rdR idC.dec (.ok l)) (vecN 32 (l.take 32))∧Rv (rdR idC.dec (lft (rdR idC.dec (.ok l)))) (vecN 32 ((l.drop 32).take 32)):=by
 have h65:64 < l.length:=(List.getElem?_eq_some_iff.1 hx).1
 have e1:=id_ok (l:=l) (by omega)
 have e2:=id_ok (l:=l.drop 32) (by rw [List.length_drop];omega)
 have e3:lft (rdR idC.dec (.ok l))= .ok (l.drop 32):=by rw [e1];rfl
 refine ⟨?_,?_,rv_of e1,by rw [e3];exact rv_of e2⟩
 ·rw [e3,e2]
  show Except.ok _=_
  rw [List.drop_drop]
 ·show N1.dec (l.drop 64)=_
  have h4:N1.dec (l.drop 64)= .ok (numV ((l.drop 64).take 1),(l.drop 64).drop 1):=if_neg (by rw [List.length_drop];omega)
  rw [h4,List.drop_drop]
  have h5:(l.drop 64).take 1= [x]:=by
   rw [List.drop_eq_getElem_cons h65]
   rw [List.getElem?_eq_getElem h65] at hx
   cases hx
   rfl
  rw [h5]
  have:numV [x]=x.toNat:=by simp [numV]
  rw [this]
theorem blk_gt {l:Byt} {x:UInt8} (hx:l[64]? =some x) (hn:32 < x.toNat):blkF.dec l= .error 4:=by
 obtain ⟨h1,h2,_⟩:=blk_cnt hx
 refine blk_err (blk_lft.trans ?_)
 rw [h1]
 have h3:rdR cntC.dec (.ok (l.drop 64))= .error 4:=by
  refine lft_err ?_
  rw [lft_chk (C:=N1) (x:=x.toNat) (rv_of h2),h2,if_neg (by simp;omega)]
  rfl
 rw [lft_lst (n:=0) (fun a r he=>by rw [h3] at he;cases he),h3]
 rfl
theorem blk_rv {s:Rst} {X1 X2:Id} {X3:List Id} (h1:Rv (rdR idC.dec s) X1) (h2:Rv (rdR idC.dec (lft (rdR idC.dec s))) X2) (h3:Rv (rdR (lstC cntC idC).dec (lft (rdR idC.dec (lft (rdR idC.dec s))))) X3):Rv (rdR blkC.dec s) ⟨X1,X2,X3⟩:=rv_map (rv_seq h1 (rv_seq h2 h3))
theorem blk_ok {l:Byt} {x:UInt8} (hx:l[64]? =some x) (hn:x.toNat≤32):blkF.dec l=if l.length < 65+32*x.toNat then .error 2 else if 65+32*x.toNat < l.length then .error 3 else if rightBP ⟨vecN 32 (l.take 32),vecN 32 ((l.drop 32).take 32),chk (l.drop 65) x.toNat⟩=true then .ok ⟨vecN 32 (l.take 32),vecN 32 ((l.drop 32).take 32),chk (l.drop 65) x.toNat⟩ else .error 4:=by
 obtain ⟨h1,h2,hv1,hv2⟩:=blk_cnt hx
 have h65:64 < l.length:=(List.getElem?_eq_some_iff.1 hx).1
 have hvn:Rv (rdR N1.dec (.ok (l.drop 64))) x.toNat:=rv_of h2
 have hvc:Rv (rdR cntC.dec (.ok (l.drop 64))) x.toNat:=rv_chk hvn
 have hlc:lft (rdR cntC.dec (.ok (l.drop 64)))= .ok (l.drop 65):=by
  rw [lft_chk hvn,h2,if_pos (by simp;omega)]
  rfl
 have hlb:lft (rdR blkC.dec (.ok l))=lft (rdR (repD idC x.toNat) (.ok (l.drop 65))):=by
  rw [blk_lft,h1,lft_lst hvc,hlc]
 by_cases h6:l.length < 65+32*x.toNat
 ·rw [if_pos h6]
  refine blk_err (hlb.trans ?_)
  show lft (repD idC x.toNat (l.drop 65))=_
  rw [repD_short idC_dec _ _ (by rw [List.length_drop];omega)]
  rfl
 ·rw [if_neg h6]
  have hr:rdR (repD idC x.toNat) (.ok (l.drop 65))= .ok (chk (l.drop 65) x.toNat,(l.drop 65).drop (32*x.toNat)):=repD_full _ _ (by rw [List.length_drop];omega)
  rw [hr] at hlb
  have hv3:Rv (rdR (repD idC x.toNat) (.ok (l.drop 65))) (chk (l.drop 65) x.toNat):=rv_of hr
  have hv:Rv (rdR blkC.dec (.ok l)) ⟨vecN 32 (l.take 32),vecN 32 ((l.drop 32).take 32),chk (l.drop 65) x.toNat⟩:=blk_rv hv1 hv2 (by rw [h1];exact rv_lst hvc (by rw [hlc];exact hv3))
  have hf:=ful_end (C:=blkC) (p:=rightBP) hv
  have hlb:lft (blkC.dec l)=_:=hlb
  rw [hlb] at hf
  have he:rdEnd (lft (.ok (chk (l.drop 65) x.toNat,(l.drop 65).drop (32*x.toNat))))=if 65+32*x.toNat < l.length then 3 else 0:=by
   show (if (l.drop 65).drop (32*x.toNat)= [] then (0:Int) else 3)=_
   rw [List.drop_drop]
   by_cases h7:65+32*x.toNat < l.length
   ·rw [if_pos h7,if_neg (fun hh=>by have:=congrArg List.length hh;rw [List.length_drop,List.length_nil] at this;omega)]
   ·rw [if_neg h7,if_pos (List.drop_of_length_le (by omega))]
  rw [he] at hf
  refine hf.trans ?_
  by_cases h7:65+32*x.toNat < l.length
  ·simp only [if_pos h7]
   rfl
  ·simp only [if_neg h7,if_true]
theorem rbdec_any {B:Nat} {w0:World} {s:Sl UInt8} (h:SlAt B w0 u8L 1 s) (hn:s.l.length≤1000000):Calls Tryz.prog 87 #[s.v] w0 fun e w'=>∃(x:Blk) (c:Int),e= .returned (.tuple #[x.v,i64 c])∧x.tx.l.length≤32∧Made (btxR x) w0 w'∧(c=0∨1≤c∧c≤4)∧blkF.dec s.l=(if c=0 then .ok x.p else .error c):=by
 have hp:=Hp.start (S:=N0) w0
 have hB:∀b,N0 b→B≤b:=fun _ hh=>hh.elim
 have uy:=Tryz.underlying34
 have hno:∀(c:Int) {w:World} {rs:List Res},1≤c∧c≤4→blkF.dec s.l= .error c→Hp N0 w0 w rs→∃(x:Blk) (c':Int),Ending.returned (.tuple #[blkZ.v,i64 c])= .returned (.tuple #[x.v,i64 c'])∧x.tx.l.length≤32∧Made (btxR x) w0 w∧(c'=0∨1≤c'∧c'≤4)∧blkF.dec s.l=(if c'=0 then .ok x.p else .error c'):=fun c w rs hc hd hp=>⟨blkZ,c,rfl,Nat.zero_le _,(hp.nilRow 48 32 Id.c).made1 (j:=0) rfl, .inr hc,by rw [hd,if_neg (by omega)]⟩
 by_cases h65:s.l.length < 65
 ·have hb:=blk_65 h65
  refine calls_x (args:= [_]) tabOk Tryz.func87 Tryz.ntmps87 Tryz.results87 rfl (Nat.le_of_ble_eq_true rfl) ?_
  ((conv=>whnf);repeat' ((first|((with_reducible apply br_id);(with_reducible refine br_dec (fun hx=>?_) (fun hx=>?_))<;>(try (exfalso;first|omega|contradiction)))|((with_reducible apply cn_id);refine cn rfl ?_)|((with_reducible apply ldn_id);apply lda_hs hp;(focus repeat' constructor);exact rfl)|((with_reducible apply al_id);refine al_cel hp ?_;clear hp;intro bb w hp)|((with_reducible apply st_id);apply sta_hs hp;(focus repeat' constructor);exact rfl;exact rfl;clear hp;intro w hp;(try dsimp only [List.set] at hp))|((with_reducible apply gen_id);first|(apply gen_build;exact rfl;exact rfl)|(apply gen_len;exact rfl;exact rfl;assumption)))<;>(conv=>whnf)))
  exact ps_val (v':= .tuple #[blkZ.v,i64 2]) rfl (hno 2 (by decide) hb hp)
 obtain ⟨bA,oA,z,hA,hbA,hrow,hxx⟩:=h.has (i:=64) (by omega)
 have hz8:=z.toNat_lt
 by_cases hgt:32 < z.toNat
 ·have hb:=blk_gt hxx hgt
  refine calls_x (args:= [_]) tabOk Tryz.func87 Tryz.ntmps87 Tryz.results87 rfl (Nat.le_of_ble_eq_true rfl) ?_
  ((conv=>whnf);repeat' ((first|((with_reducible apply br_id);(with_reducible refine br_dec (fun hx=>?_) (fun hx=>?_))<;>(try (exfalso;first|omega|contradiction)))|((with_reducible apply ar_id);refine ar_i64 (by omega) ?_)|((with_reducible apply cn_id);refine cn rfl ?_)|((with_reducible apply ld_id);(refine ld_row0 hp hB ‹_› ‹_› _ rfl ‹_› (by rfl) ?_))|((with_reducible apply ldn_id);apply lda_hs hp;(focus repeat' constructor);exact rfl)|((with_reducible apply al_id);refine al_cel hp ?_;clear hp;intro bb w hp)|((with_reducible apply st_id);apply sta_hs hp;(focus repeat' constructor);exact rfl;exact rfl;clear hp;intro w hp;(try dsimp only [List.set] at hp))|((with_reducible apply gen_id);first|(refine gen_ixs rfl rfl ‹_› rfl rfl (by omega) ?_)|(apply gen_build;exact rfl;exact rfl)|(apply gen_len;exact rfl;exact rfl;assumption)))<;>(conv=>whnf)))
  exact ps_val (v':= .tuple #[blkZ.v,i64 4]) rfl (hno 4 (by decide) hb hp)
 have hb:=blk_ok hxx (by omega)
 obtain ⟨n,hzn⟩:∃n,z.toNat=n:=⟨_,rfl⟩
 rw [hzn] at hb
 by_cases hlt:s.l.length < 65+32*n
 ·rw [if_pos hlt] at hb
  refine calls_x (args:= [_]) tabOk Tryz.func87 Tryz.ntmps87 Tryz.results87 rfl (Nat.le_of_ble_eq_true rfl) ?_
  ((conv=>whnf);repeat' ((first|((with_reducible apply br_id);(with_reducible refine br_dec (fun hx=>?_) (fun hx=>?_))<;>(try (exfalso;first|omega|contradiction)))|((with_reducible apply ar_id);first|(refine ar_n (32*n) (by omega) (by omega) ?_)|(refine ar_n (65+32*n) (by omega) (by omega) ?_)|refine ar_i64 (by omega) ?_)|((with_reducible apply cn_id);refine cn rfl ?_)|((with_reducible apply ld_id);(refine ld_row0 hp hB ‹_› ‹_› _ rfl ‹_› (by rfl) ?_))|((with_reducible apply ldn_id);apply lda_hs hp;(focus repeat' constructor);exact rfl)|((with_reducible apply al_id);refine al_cel hp ?_;clear hp;intro bb w hp)|((with_reducible apply st_id);apply sta_hs hp;(focus repeat' constructor);exact rfl;exact rfl;clear hp;intro w hp;(try dsimp only [List.set] at hp))|((with_reducible apply gen_id);first|(refine gen_ixs rfl rfl ‹_› rfl rfl (by omega) ?_)|(apply gen_build;exact rfl;exact rfl)|(apply gen_len;exact rfl;exact rfl;assumption)))<;>(conv=>whnf)))
  exact ps_val (v':= .tuple #[blkZ.v,i64 2]) rfl (hno 2 (by decide) hb hp)
 rw [if_neg hlt] at hb
 by_cases hlg:65+32*n < s.l.length
 ·rw [if_pos hlg] at hb
  refine calls_x (args:= [_]) tabOk Tryz.func87 Tryz.ntmps87 Tryz.results87 rfl (Nat.le_of_ble_eq_true rfl) ?_
  ((conv=>whnf);repeat' ((first|((with_reducible apply br_id);(with_reducible refine br_dec (fun hx=>?_) (fun hx=>?_))<;>(try (exfalso;first|omega|contradiction)))|((with_reducible apply ar_id);first|(refine ar_n (32*n) (by omega) (by omega) ?_)|(refine ar_n (65+32*n) (by omega) (by omega) ?_)|refine ar_i64 (by omega) ?_)|((with_reducible apply cn_id);refine cn rfl ?_)|((with_reducible apply ld_id);(refine ld_row0 hp hB ‹_› ‹_› _ rfl ‹_› (by rfl) ?_))|((with_reducible apply ldn_id);apply lda_hs hp;(focus repeat' constructor);exact rfl)|((with_reducible apply al_id);refine al_cel hp ?_;clear hp;intro bb w hp)|((with_reducible apply st_id);apply sta_hs hp;(focus repeat' constructor);exact rfl;exact rfl;clear hp;intro w hp;(try dsimp only [List.set] at hp))|((with_reducible apply gen_id);first|(refine gen_ixs rfl rfl ‹_› rfl rfl (by omega) ?_)|(apply gen_build;exact rfl;exact rfl)|(apply gen_len;exact rfl;exact rfl;assumption)))<;>(conv=>whnf)))
  exact ps_val (v':= .tuple #[blkZ.v,i64 3]) rfl (hno 3 (by decide) hb hp)
 rw [if_neg hlg] at hb
 obtain ⟨i1,hi1⟩:∃i1,vecN 32 (s.l.take 32)=i1:=⟨_,rfl⟩
 obtain ⟨i2,hi2⟩:∃i2,vecN 32 ((s.l.drop 32).take 32)=i2:=⟨_,rfl⟩
 have c1:=fun {w:World} (hc:Chg N0 w0 w)=>rid16_any (h.keep hc hB) 0 (by omega) hn
 have c2:=fun {w:World} (hc:Chg N0 w0 w)=>rid16_any (h.keep hc hB) 32 (by omega) hn
 rw [List.drop_zero,hi1] at c1
 rw [hi2] at c2
 rw [hi1,hi2] at hb
 refine calls_x (args:= [_]) tabOk Tryz.func87 Tryz.ntmps87 Tryz.results87 rfl (Nat.le_of_ble_eq_true rfl) ?_
 ((conv=>whnf);repeat' ((first|((with_reducible apply br_id);(with_reducible refine br_dec (fun hx=>?_) (fun hx=>?_))<;>(try (exfalso;first|omega|contradiction)))|((with_reducible apply ar_id);first|(refine ar_n (32*n) (by omega) (by omega) ?_)|(refine ar_n (65+32*n) (by omega) (by omega) ?_)|refine ar_i64 (by omega) ?_)|((with_reducible apply cn_id);refine cn rfl ?_)|((with_reducible apply ld_id);(refine ld_row0 hp hB ‹_› ‹_› _ rfl ‹_› (by rfl) ?_))|((with_reducible apply al_id);refine al_cel hp ?_;clear hp;intro bb w hp)|((with_reducible apply st_id);apply sta_hs hp;(focus repeat' constructor);exact rfl;exact rfl;clear hp;intro w hp;(try dsimp only [List.set] at hp))|((with_reducible apply gen_id);first|(refine gen_ixs rfl rfl ‹_› rfl rfl (by omega) ?_)|(apply gen_build;exact rfl;exact rfl)|(apply gen_len;exact rfl;exact rfl;assumption))|((with_reducible apply cl_id);(refine cl_eq ((c1 hp.chg)) rfl rfl ?_;rintro e w ⟨rfl,hcc⟩;replace hp:=hp.call0 hcc;refine ⟨_,rfl,?_⟩)))<;>(conv=>whnf)))
 obtain ⟨b4,hb4⟩:∃b,b=bb:=⟨_,rfl⟩
 subst hb4
 obtain ⟨b2,hb2⟩:∃b,b=bb:=⟨_,rfl⟩
 subst hb2
 ((conv=>whnf);repeat' ((first|((with_reducible apply cn_id);refine cn rfl ?_)|((with_reducible apply al_id);refine al_cel hp ?_;clear hp;intro bb w hp)|((with_reducible apply st_id);apply sta_hs hp;(focus repeat' constructor);exact rfl;exact rfl;clear hp;intro w hp;(try dsimp only [List.set] at hp))|((with_reducible apply gen_id);(refine gen_build (t:=51) (out:=(Blk.c ⟨i1,i2,Sl.nil⟩)) rfl (by kernel_rfl) ?_))|((with_reducible apply cl_id);(refine cl_eq ((c2 hp.chg)) rfl rfl ?_;rintro e w ⟨rfl,hcc⟩;replace hp:=hp.call0 hcc;refine ⟨_,rfl,?_⟩)))<;>(conv=>whnf)))
 obtain ⟨b6,hb6⟩:∃b,b=bb:=⟨_,rfl⟩
 subst hb6
 have hp0:Hp N0 w0 w [rowR 48 32 Id.c Sl.nil,cel b6 51 (Blk.c ⟨i1,i2,Sl.nil⟩).toArray,cel b4 51 (Blk.c blkZ).toArray,cel b2 51 (Blk.c blkZ).toArray]:=hp.nilRow 48 32 Id.c
 clear hp c1 c2 hi1 hi2
 refine lp_inv (α:=Nat×Sl Id) (fun a=> [(0,s.v),(2,ptr b2),(4,ptr b4),(5,i64 n),(6,ptr b6),(7,i64 a.1)]) (fun a w=>a.1≤n∧a.2.l=chk (s.l.drop 65) a.1∧Hp N0 w0 w [rowR 48 32 Id.c a.2,cel b6 51 (Blk.c ⟨i1,i2,a.2⟩).toArray,cel b4 51 (Blk.c blkZ).toArray,cel b2 51 (Blk.c blkZ).toArray]) (fun a=>n - a.1) (0,Sl.nil) (by rw [←hzn];(repeat' (first|exact trivial|(refine ⟨rfl,?_⟩)))) ⟨by omega,rfl,hp0⟩ ?_
 clear hp0
 rintro ⟨i,W⟩ e0 w ⟨hi,hW,hp⟩
 dsimp only at hi hW hp ⊢
 have hWl:W.l.length=i:=by rw [hW,chk_len]
 rcases Nat.lt_or_ge i n with hlt2|hge
 ·obtain ⟨y,hy⟩:∃y,vecN 32 ((s.l.drop (65+32*i)).take 32)=y:=⟨_,rfl⟩
  have c3:=fun {w:World} (hc:Chg N0 w0 w)=>rid16_any (h.keep hc hB) (65+32*i) (by omega) hn
  rw [hy] at c3
  have hst:chk (s.l.drop 65) (i+1)=W.l++ [y]:=by rw [chk_snoc,←hW,List.drop_drop,hy]
  ((conv=>whnf);repeat' (((with_reducible apply br_id);(with_reducible refine br_dec (fun hx=>?_) (fun hx=>?_))<;>(try (exfalso;first|omega|contradiction)))<;>(conv=>whnf)))
  refine dr_autos [] 8 tabOk (by kernel_rfl) (by decide+kernel) ?_
  replace hp:=hp.drew
  ((conv=>whnf);repeat' ((first|((with_reducible apply ar_id);first|(refine ar_n (i+1) (by omega) (by omega) ?_)|(refine ar_n (32*i) (by omega) (by omega) ?_)|(refine ar_n (65+32*i) (by omega) (by omega) ?_))|((with_reducible apply cn_id);first|refine cn rfl ?_|refine cn ‹_› ?_)|((with_reducible apply ld_id);apply ld_hs hp;(focus repeat' constructor);exact rfl)|((with_reducible apply st_id);apply st_hs hp;(focus repeat' constructor);exact rfl;exact rfl;clear hp;intro w hp;(try dsimp only [List.set] at hp))|((with_reducible apply gen_id);first|((refine gen_bs rfl hp el_id Id.c [y] [Id.v y] rfl rfl rfl (fun _ hh=>by simp at hh;subst hh;rfl) (by omega) ?_);clear hp;intro br w hp)|((refine gen_app (s:=W) rfl hp 1 rfl el_id rfl ⟨some ⟨br,0,none⟩,1, [y]⟩ rfl (hp.row (j:=0) rfl) (fun _ _=>rfl) idL_one (by simp only [List.length_cons,List.length_nil];omega) (by simp only [maxLen,List.length_cons,List.length_nil];omega) ?_);clear hp;intro A1 c1 w hp;dsimp only [List.set] at hp))|((with_reducible apply cl_id);(refine cl_eq ((c3 hp.chg)) rfl rfl ?_;rintro e w ⟨rfl,hcc⟩;replace hp:=hp.call0 hcc;refine ⟨_,rfl,?_⟩)))<;>(conv=>whnf)))
  exact lp_next (i+1,(⟨A1,c1,W.l++ [y]⟩:Sl Id)) (by show n - (i+1) < n - i;omega) (by (repeat' (first|exact trivial|(refine ⟨rfl,?_⟩)))) ⟨by show i+1≤n;omega,hst.symm,hp.tail⟩
 ·obtain rfl:i=n:=by omega
  rw [←hW] at hb
  have hrt:=fun {w:World} (hc:SlAt w.heap.size w Id.c 32 W)=>rightRef_any (b:=⟨i1,i2,W⟩) hc
  obtain ⟨R,hR⟩:∃R,rightB ⟨i1,i2,W⟩=R:=⟨_,rfl⟩
  have hR2:rightBP ⟨i1,i2,W.l⟩=R:=hR
  rw [hR2] at hb
  rw [hR] at hrt
  clear hR hR2
  ((conv=>whnf);repeat' ((first|((with_reducible apply br_id);first|with_reducible refine br_not ?_|((with_reducible refine br_dec (fun hx=>?_) (fun hx=>?_))<;>(try (exfalso;first|omega|contradiction)))|((with_reducible refine br_s (fun hx=>?_) (fun hx=>?_))<;>(try (exfalso;first|omega|contradiction))))|((with_reducible apply cn_id);refine cn rfl ?_)|((with_reducible apply ldn_id);apply lda_hs hp;(focus repeat' constructor);exact rfl)|((with_reducible apply st_id);apply sta_hs hp;(focus repeat' constructor);exact rfl;exact rfl;clear hp;intro w hp;(try dsimp only [List.set] at hp))|((with_reducible apply cl_id);(refine cl_eq ((hrt (hp.row (j:=0) rfl))) rfl rfl ?_;rintro e w ⟨rfl,hcc⟩;replace hp:=hp.call0 hcc;refine ⟨_,rfl,?_⟩)))<;>(conv=>whnf)))
  ·have hrr:R=true:=by assumption
   exact ps_val (v':= .tuple #[(Blk.v ⟨i1,i2,W⟩),i64 0]) rfl ⟨⟨i1,i2,W⟩,0,rfl,by show W.l.length≤32;omega,hp.made1 (j:=0) rfl, .inl rfl,by rw [hb,if_pos hrr,if_pos rfl];rfl⟩
  ·have hrr:R=false:=by assumption
   exact ps_val (v':= .tuple #[blkZ.v,i64 4]) rfl (hno 4 (by decide) (by rw [hb,hrr,if_neg (by decide)]) hp)
end Go.Proofs.YtpbapnlnheahnaaGreatDoor
