/- Sort2: slices.Sort at uint32: a length's bits, breaking patterns. Of own rows of at most a million. -/
import Derived.Test.YteabebmlclgakaaGreatMRespondAllsSort1
import Derived.Test.YteabebmlclgakaaGreatMRespondAll9
set_option linter.unusedSimpArgs false
set_option linter.unusedVariables false
namespace Go.Proofs.YteabebmlclgakaaGreat
open Go.RowKit
set_option maxRecDepth 100000
set_option maxHeartbeats 4000000
theorem len64S_any {w0:World} (n:Nat) (h0:0 < n) (hn:n≤1000000):Calls Tryz.prog 236 #[.int .u64 n] w0 fun e w'=>∃L:Nat,2 ^ L≤2*n∧L≤24∧e= .returned (i64 L)∧Chg N0 w0 w':=by
 have hp:=Hp.start (S:=N0) w0
 rcases Nat.lt_or_ge n 256 with h1|h1
 ·obtain ⟨hb1,hb2,hb3⟩:=bitLen_small ⟨n,h1⟩
  dsimp only at hb1 hb2 hb3
  obtain ⟨L,hL⟩:∃L,Lib.bitLen n=L:=⟨_,rfl⟩
  rw [hL] at hb1 hb2 hb3
  refine calls_x (args:= [_]) tabOk Tryz.func236 Tryz.ntmps236 Tryz.results236 rfl (Nat.le_of_ble_eq_true rfl) ?_
  ((conv=>whnf);repeat' ((first|((with_reducible refine br_id ?_);((with_reducible refine br_dec (fun hx=>?_) (fun hx=>?_))<;>(try (exfalso;first|omega|contradiction))))|((with_reducible refine ar_id ?_);first|(refine ar_i64 (by omega) ?_)|(refine ar_u8 (by omega) ?_))|((with_reducible refine gen_id ?_);((refine gen_len8 rfl Tryz.underlying9 rfl rfl (by omega) ?_))))<;>(conv=>whnf)))
  all_goals exact ps_val (v':=i64 (0+(Lib.bitLen n:Nat))) rfl ⟨L,hb3 h0,by omega,by rw [hL,Int.zero_add],hp.chg⟩
 ·rcases Nat.lt_or_ge n 65536 with h2|h2
  ·skip
   have hq:n / 2 ^ 8 < 256:=by omega
   obtain ⟨hb1,hb2,hb3⟩:=bitLen_small ⟨n / 2 ^ 8,hq⟩
   dsimp only at hb1 hb2 hb3
   obtain ⟨L,hL⟩:∃L,Lib.bitLen (n / 2 ^ 8)=L:=⟨_,rfl⟩
   rw [hL] at hb1 hb2 hb3
   have hfin:2 ^ (8+L)≤2*n:=by
    have h3:=hb3 (by omega)
    rw [Nat.pow_add]
    omega
   refine calls_x (args:= [_]) tabOk Tryz.func236 Tryz.ntmps236 Tryz.results236 rfl (Nat.le_of_ble_eq_true rfl) ?_
   ((conv=>whnf);repeat' ((first|((with_reducible refine br_id ?_);((with_reducible refine br_dec (fun hx=>?_) (fun hx=>?_))<;>(try (exfalso;first|omega|contradiction))))|((with_reducible refine ar_id ?_);first|(refine ar_i64 (by omega) ?_)|(refine ar_u8 (by omega) ?_))|((with_reducible refine gen_id ?_);first|((refine gen_shr64 rfl n 8 rfl rfl rfl (by omega) ?_))|((refine gen_len8 rfl Tryz.underlying9 rfl rfl (by omega) ?_))))<;>(conv=>whnf)))
   all_goals exact ps_val (v':=i64 (0+8+(Lib.bitLen (n / 2 ^ 8):Nat))) rfl ⟨8+L,hfin,by omega,by rw [hL];congr 2,hp.chg⟩
  ·skip
   have hq:n / 2 ^ 16 < 256:=by omega
   obtain ⟨hb1,hb2,hb3⟩:=bitLen_small ⟨n / 2 ^ 16,hq⟩
   dsimp only at hb1 hb2 hb3
   obtain ⟨L,hL⟩:∃L,Lib.bitLen (n / 2 ^ 16)=L:=⟨_,rfl⟩
   rw [hL] at hb1 hb2 hb3
   have hfin:2 ^ (16+L)≤2*n:=by
    have h3:=hb3 (by omega)
    rw [Nat.pow_add]
    omega
   refine calls_x (args:= [_]) tabOk Tryz.func236 Tryz.ntmps236 Tryz.results236 rfl (Nat.le_of_ble_eq_true rfl) ?_
   ((conv=>whnf);repeat' ((first|((with_reducible refine br_id ?_);((with_reducible refine br_dec (fun hx=>?_) (fun hx=>?_))<;>(try (exfalso;first|omega|contradiction))))|((with_reducible refine ar_id ?_);first|(refine ar_i64 (by omega) ?_)|(refine ar_u8 (by omega) ?_))|((with_reducible refine gen_id ?_);first|((refine gen_shr64 rfl n 16 rfl rfl rfl (by omega) ?_))|((refine gen_len8 rfl Tryz.underlying9 rfl rfl (by omega) ?_))))<;>(conv=>whnf)))
   all_goals exact ps_val (v':=i64 (0+16+(Lib.bitLen (n / 2 ^ 16):Nat))) rfl ⟨16+L,hfin,by omega,by rw [hL];congr 2,hp.chg⟩
theorem blenS_any {w0:World} (n:Nat) (h0:0 < n) (hn:n≤1000000):Calls Tryz.prog 201 #[.int .u64 n] w0 fun e w'=>∃L:Nat,2 ^ L≤2*n∧L≤24∧e= .returned (i64 L)∧Chg N0 w0 w':=by
 have hp:=Hp.start (S:=N0) w0
 refine calls_x (args:= [_]) tabOk Tryz.func201 Tryz.ntmps201 Tryz.results201 rfl (Nat.le_of_ble_eq_true rfl) ?_
 ((conv=>whnf);repeat' ((first|((with_reducible refine br_id ?_);(with_reducible refine br_f ?_))|((with_reducible refine cl_id ?_);((refine cl_eq (len64S_any n h0 hn) rfl rfl ?_;rintro e w ⟨L,h1,h2,rfl,hcc⟩;replace hp:=hp.call0 hcc;refine ⟨_,rfl,?_⟩))))<;>(conv=>whnf)))
 exact ps_val (v':=i64 L) rfl ⟨L,h1,h2,rfl,hp.chg⟩
theorem npow_any {w0:World} (n:Nat) (h0:0 < n) (hn:n≤1000000):Calls Tryz.prog 259 #[i64 n] w0 fun e w'=>∃M:Nat,0 < M∧M≤2*n∧e= .returned (.int .u64 M)∧Chg N0 w0 w':=by
 have hp:=Hp.start (S:=N0) w0
 refine calls_x (args:= [_]) tabOk Tryz.func259 Tryz.ntmps259 Tryz.results259 rfl (Nat.le_of_ble_eq_true rfl) ?_
 ((conv=>whnf);repeat' ((first|((with_reducible refine ar_id ?_);(refine ar_u64 (by omega) ?_))|((with_reducible refine gen_id ?_);((refine gen_shl64 rfl 1 L rfl rfl rfl (by omega) ?_)))|((with_reducible refine cl_id ?_);((refine cl_eq (blenS_any n h0 hn) rfl rfl ?_;rintro e w ⟨L,h1,h2,rfl,hcc⟩;replace hp:=hp.call0 hcc;refine ⟨_,rfl,?_⟩))))<;>(conv=>whnf)))
 have h3:1*2 ^ L % 2 ^ 64=2 ^ L:=by rw [Nat.one_mul];exact Nat.mod_eq_of_lt (by omega)
 exact ps_val (v':= .int .u64 ((1*2 ^ L % 2 ^ 64:Nat):Int)) rfl ⟨2 ^ L,Nat.two_pow_pos L,h1,by rw [h3],hp.chg⟩
theorem next_any {w0:World} {s m:Nat} (h:(cel s 335 #[.int .u64 m]).ok w0) (hm:m < 2 ^ 64):Calls Tryz.prog 260 #[ptr s] w0 fun e w'=>∃r:Nat,r < 2 ^ 64∧e= .returned (.int .u64 r)∧Mut (cel s 335 #[.int .u64 m]) (cel s 335 #[.int .u64 r]) w0 w':=by
 have hp:=Hp.one h
 obtain ⟨m1,hm1⟩:∃x,m ^^^ (m*2 ^ 13 % 2 ^ 64)=x:=⟨_,rfl⟩
 have h1:m1 < 2 ^ 64:=by rw [←hm1];exact Nat.xor_lt_two_pow hm (Nat.mod_lt _ (by omega))
 obtain ⟨m2,hm2⟩:∃x,m1 ^^^ (m1 / 2 ^ 7)=x:=⟨_,rfl⟩
 have h2:m2 < 2 ^ 64:=by rw [←hm2];exact Nat.xor_lt_two_pow h1 (by omega)
 obtain ⟨m3,hm3⟩:∃x,m2 ^^^ (m2*2 ^ 17 % 2 ^ 64)=x:=⟨_,rfl⟩
 have h3:m3 < 2 ^ 64:=by rw [←hm3];exact Nat.xor_lt_two_pow h2 (Nat.mod_lt _ (by omega))
 have hl13:m*2 ^ 13 % 2 ^ 64 < 2 ^ 64:=Nat.mod_lt _ (by omega)
 have hl7:m1 / 2 ^ 7 < 2 ^ 64:=by omega
 have hl17:m2*2 ^ 17 % 2 ^ 64 < 2 ^ 64:=Nat.mod_lt _ (by omega)
 refine calls_x (args:= [_]) tabOk Tryz.func260 Tryz.ntmps260 Tryz.results260 rfl (Nat.le_of_ble_eq_true rfl) ?_
 ((conv=>whnf);repeat' ((first|((with_reducible refine br_id ?_);first|(with_reducible refine br_t ?_)|(with_reducible refine br_f ?_)|(with_reducible refine br_not ?_)|((with_reducible refine br_dec (fun hx=>?_) (fun hx=>?_))<;>(try (exfalso;first|omega|contradiction)))|((with_reducible refine br_eq (fun hx=>?_) (fun hx=>?_))<;>(try (exfalso;first|omega|contradiction)))|((with_reducible refine br_ne (fun hx=>?_) (fun hx=>?_))<;>(try (exfalso;first|omega|contradiction)))|((with_reducible refine br_s (fun hx=>?_) (fun hx=>?_))<;>(try (exfalso;first|omega|contradiction))))|((with_reducible refine ar_id ?_);first|(refine ar_i64 (by omega) ?_)|(refine ar_u32 (by omega) ?_)|(refine ar_u64 (by omega) ?_)|(refine ar_u8 (by omega) ?_))|((with_reducible refine cn_id ?_);first|(refine cn rfl ?_)|(refine cn ‹_› ?_)|(refine cn (by omega) ?_)|(refine cn (Chg.refl _ _) ?_))|((with_reducible refine ld_id ?_);first|(apply ld_hs hp;(focus repeat' constructor);exact rfl)|(refine ld_of ‹_› ?_))|((with_reducible refine ldn_id ?_);first|(apply lda_hs hp;(focus repeat' constructor);exact rfl)|(apply ldn_hs hp;(focus repeat' constructor);exact rfl;exact rfl))|((with_reducible refine al_id ?_);(refine al_cel hp ?_;clear hp;intro bb w hp))|((with_reducible refine st_id ?_);first|(apply sta_hs hp;(focus repeat' constructor);exact rfl;exact rfl;clear hp;intro w hp;(try dsimp only [List.set] at hp))|(apply st_hs hp;(focus repeat' constructor);exact rfl;exact rfl;clear hp;intro w hp;(try dsimp only [List.set] at hp)))|((with_reducible refine gen_id ?_);first|(apply gen_build;exact rfl;exact rfl)|(apply gen_len;exact rfl;exact rfl;assumption)|(apply gen_min;exact rfl;exact rfl;exact rfl)|(apply gen_max;exact rfl;exact rfl;exact rfl)|(apply gen_ix;exact rfl;exact rfl;exact rfl;exact rfl;omega)|(apply gen_ixa;exact rfl;exact rfl;exact rfl;exact rfl;omega))|((with_reducible refine fk_id ?_);(refine fk_mk ?_ ?_))|((with_reducible refine rd_id ?_);first|(apply rd_len;exact rfl;exact rfl;assumption)|(apply rd_ix;exact rfl;exact rfl;exact rfl;exact rfl;omega)))<;>(conv=>whnf)))
 refine dr_auto tabOk (by kernel_rfl) (by decide+kernel) ?_
 replace hp:=hp.drew
 ((conv=>whnf);repeat' ((first|((with_reducible refine cn_id ?_);(refine cn rfl ?_))|((with_reducible refine ld_id ?_);(apply ld_hs hp;(focus repeat' constructor);exact rfl))|((with_reducible refine st_id ?_);(apply sta_hs hp;(focus repeat' constructor);exact rfl;exact rfl;clear hp;intro w hp;(try dsimp only [List.set] at hp)))|((with_reducible refine rd_id ?_);first|((refine rd_shl64 rfl m 13 rfl rfl rfl (by omega) ?_))|((refine rd_xor64 rfl m (m*2 ^ 13 % 2 ^ 64) rfl rfl hm hl13 ?_))))<;>(conv=>whnf)))
 rw [hm1] at hp
 refine dr_auto tabOk (by kernel_rfl) (by decide+kernel) ?_
 replace hp:=hp.drew
 ((conv=>whnf);repeat' ((first|((with_reducible refine cn_id ?_);(refine cn rfl ?_))|((with_reducible refine ld_id ?_);(apply ld_hs hp;(focus repeat' constructor);exact rfl))|((with_reducible refine st_id ?_);(apply sta_hs hp;(focus repeat' constructor);exact rfl;exact rfl;clear hp;intro w hp;(try dsimp only [List.set] at hp)))|((with_reducible refine rd_id ?_);first|((refine rd_shr64 rfl m1 7 rfl rfl rfl (by omega) ?_))|((refine rd_xor64 rfl m1 (m1 / 2 ^ 7) rfl rfl h1 hl7 ?_))))<;>(conv=>whnf)))
 rw [hm2] at hp
 refine dr_auto tabOk (by kernel_rfl) (by decide+kernel) ?_
 replace hp:=hp.drew
 ((conv=>whnf);repeat' ((first|((with_reducible refine cn_id ?_);(refine cn rfl ?_))|((with_reducible refine ld_id ?_);(apply ld_hs hp;(focus repeat' constructor);exact rfl))|((with_reducible refine st_id ?_);(apply sta_hs hp;(focus repeat' constructor);exact rfl;exact rfl;clear hp;intro w hp;(try dsimp only [List.set] at hp)))|((with_reducible refine rd_id ?_);first|((refine rd_shl64 rfl m2 17 rfl rfl rfl (by omega) ?_))|((refine rd_xor64 rfl m2 (m2*2 ^ 17 % 2 ^ 64) rfl rfl h2 hl17 ?_))))<;>(conv=>whnf)))
 rw [hm3] at hp ⊢
 exact ps_val (v':= .int .u64 m3) rfl ⟨m3,h3,rfl,hp.shut1 (j:=0) rfl⟩
theorem brk_any {w0:World} {g c N:Nat} {d:Array UInt32} (h:(datR (some ⟨g,0,none⟩) c d).ok w0) {a b:Nat} (hab:a+12 < b) (hb:b≤d.size) (hN:d.size=N) (hn:N≤1000000):Calls Tryz.prog 251 #[.slice (some ⟨g,0,none⟩) N c,i64 a,i64 b] w0 fun e w'=>∃d':Array UInt32,Sort.PermIn a b d d'∧e= .returned (.tuple #[])∧Mut (datR (some ⟨g,0,none⟩) c d) (datR (some ⟨g,0,none⟩) c d') w0 w':=by
 have hp:=Hp.one h
 have us:=Tryz.underlying199
 have hA:(dat (some ⟨g,0,none⟩) c d).A=some ⟨g,0,none⟩:=rfl
 obtain ⟨l,rfl⟩:∃l,b=a+l:=⟨b - a,by omega⟩
 have hq:((l:Nat):Int).tdiv 4=((l / 4:Nat):Int):=(Int.ofNat_tdiv l 4).symm
 refine calls_x (args:= [_,_,_]) tabOk Tryz.func251 Tryz.ntmps251 Tryz.results251 rfl (Nat.le_of_ble_eq_true rfl) ?_
 ((conv=>whnf);repeat' ((first|((with_reducible refine br_id ?_);((with_reducible refine br_dec (fun hx=>?_) (fun hx=>?_))<;>(try (exfalso;first|omega|contradiction))))|((with_reducible refine ar_id ?_);first|((refine ar_n (l) (by omega) (by omega) ?_))|(refine ar_u64 (by omega) ?_))|((with_reducible refine cn_id ?_);(refine cn rfl ?_))|((with_reducible refine al_id ?_);(refine al_cel hp ?_;clear hp;intro bb w hp))|((with_reducible refine st_id ?_);(apply sta_hs hp;(focus repeat' constructor);exact rfl;exact rfl;clear hp;intro w hp;(try dsimp only [List.set] at hp))))<;>(conv=>whnf)))
 refine cl_eq (npow_any l (by omega) (by omega)) rfl rfl ?_
 rintro e w ⟨M,hM0,hM,rfl,hcc⟩
 replace hp:=hp.call0 hcc
 clear hcc
 refine ⟨_,rfl,?_⟩
 obtain ⟨s,hs⟩:∃x:Nat,x=bb:=⟨_,rfl⟩
 subst hs
 ((conv=>whnf);repeat' ((first|((with_reducible refine ar_id ?_);first|((refine ar_n (l / 4*2) (by rw [hq];omega) (by omega) ?_))|((refine ar_n (a+l / 4*2) (by omega) (by omega) ?_))|((refine ar_n (a+l / 4*2 - 1) (by omega) (by omega) ?_))|(refine ar_i64 (by omega) ?_))|((with_reducible refine cn_id ?_);(refine cn (by omega) ?_)))<;>(conv=>whnf)))
 refine lp_inv (α:=Nat×Nat×Array UInt32) (fun x=> [(0, .slice (some ⟨g,0,none⟩) N c),(1,i64 a),(6,i64 l),(7,ptr s),(8, .int .u64 M),(9,i64 x.1)]) (fun x w=>a≤x.1∧x.1≤a+l / 4*2+2∧x.2.1 < 2 ^ 64∧x.2.2.size=N∧Sort.PermIn a (a+l) d x.2.2∧Hp (datR (some ⟨g,0,none⟩) c d).dom w0 w [cel s 335 #[.int .u64 (x.2.1:Nat)],datR (some ⟨g,0,none⟩) c x.2.2]) (fun x=>a+l / 4*2+3 - x.1) (a+l / 4*2 - 1,l,d) (by (repeat' (first|exact trivial|(refine ⟨rfl,?_⟩)))) ⟨by show a≤_;omega,by show _≤_;omega,by show l < _;omega,hN,Sort.permIn_refl _ _ _,hp⟩ ?_
 clear hp
 rintro ⟨x,m,d1⟩ e0 w ⟨hx1,hx2,hm,hs1,hP,hp⟩
 dsimp only at hx1 hx2 hm hs1 hP hp ⊢
 rcases Nat.lt_or_ge x (a+l / 4*2+2) with hlt|hge
 ·((conv=>whnf);repeat' ((first|((with_reducible refine br_id ?_);((with_reducible refine br_dec (fun hx=>?_) (fun hx=>?_))<;>(try (exfalso;first|omega|contradiction))))|((with_reducible refine ar_id ?_);first|((refine ar_n (l / 4*2) (by rw [hq];omega) (by omega) ?_))|((refine ar_n (a+l / 4*2) (by omega) (by omega) ?_))|((refine ar_n (a+l / 4*2+1) (by omega) (by omega) ?_))|(refine ar_i64 (by omega) ?_))|((with_reducible refine cn_id ?_);(refine cn (by omega) ?_)))<;>(conv=>whnf)))
  refine cl_eq (next_any (hp.get (j:=0) rfl) hm) rfl rfl ?_
  rintro e w ⟨r,hr,rfl,hmt⟩
  replace hp:=hp.via (j:=0) rfl hmt
  clear hmt
  dsimp only [List.set] at hp
  refine ⟨_,rfl,?_⟩
  have hw:IntKind.u64.wrap ((M:Nat) - 1:Int)=((M - 1:Nat):Int):=by
   rw [show ((M:Nat) - 1:Int)=((M - 1:Nat):Int) by omega,wrap_u64,Nat.mod_eq_of_lt (by omega)]
  ((conv=>whnf);repeat' ((first|((with_reducible refine ar_id ?_);((refine ar_is _ hw ?_)))|((with_reducible refine gen_id ?_);((refine gen_and64 rfl r (M - 1) rfl rfl hr (by omega) ?_))))<;>(conv=>whnf)))
  obtain ⟨q,hqd⟩:∃q,r &&& (M - 1)=q:=⟨_,rfl⟩
  have hqM:q≤M - 1:=by rw [←hqd];exact Nat.and_le_right
  rw [hqd]
  by_cases hql:l≤q
  ·skip
   have hx3:=sat_ d1 (i:=x) (by omega)
   have hx4:=sat_ d1 (i:=a+(q - l)) (by omega)
   ((conv=>whnf);repeat' ((first|((with_reducible refine br_id ?_);((with_reducible refine br_dec (fun hx=>?_) (fun hx=>?_))<;>(try (exfalso;first|omega|contradiction))))|((with_reducible refine ar_id ?_);first|((refine ar_n (q - l) (by omega) (by omega) ?_))|(refine ar_i64 (by omega) ?_)))<;>(conv=>whnf)))
   refine dr_autos [5] 1000 tabOk (by kernel_rfl) (by decide+kernel) ?_
   replace hp:=hp.drew
   ((conv=>whnf);repeat' ((first|((with_reducible refine ar_id ?_);first|((refine ar_n (a+(q - l)) (by omega) (by omega) ?_))|((refine ar_n (x+1) (by omega) (by omega) ?_)))|((with_reducible refine cn_id ?_);first|(refine cn rfl ?_)|(refine cn (Chg.refl _ _) ?_))|((with_reducible refine ld_id ?_);((refine ld_own0 hp 1 rfl ‹_› _ rfl ‹_› (by rfl) ?_)))|((with_reducible refine st_id ?_);first|((refine st_ownx hp 1 rfl rfl x rfl d1[a+(q - l)]! rfl (by simp only [List.length_set,Array.length_toList];omega) (fun _=>rfl) rfl ?_);clear hp;intro w hp;dsimp only [List.set] at hp)|((refine st_ownx hp 1 rfl rfl (a+(q - l)) rfl d1[x]! rfl (by simp only [List.length_set,Array.length_toList];omega) (fun _=>rfl) rfl ?_);clear hp;intro w hp;dsimp only [List.set] at hp))|((with_reducible refine fk_id ?_);(refine fk_mk ?_ ?_))|((with_reducible refine rd_id ?_);((refine rd_ixs rfl rfl ‹_› rfl rfl (by omega) ?_))))<;>(conv=>whnf)))
   all_goals rw [swp_l] at hp
   all_goals exact lp_next (x+1,r,Sort.swp d1 x (a+(q - l))) (by show a+l / 4*2+3 - (x+1) < a+l / 4*2+3 - x;omega) (by (repeat' (first|exact trivial|(refine ⟨rfl,?_⟩)))) ⟨by show a≤x+1;omega,by show x+1≤_;omega,hr,by rw [Sort.size_swp];exact hs1,Sort.permIn_trans _ _ _ _ _ hP (Sort.swp_permIn _ _ _ _ _ (by omega) (by omega) (by omega) (by omega) (by omega)),hp⟩
  ·skip
   have hx3:=sat_ d1 (i:=x) (by omega)
   have hx4:=sat_ d1 (i:=a+(q)) (by omega)
   ((conv=>whnf);repeat' ((first|((with_reducible refine br_id ?_);((with_reducible refine br_dec (fun hx=>?_) (fun hx=>?_))<;>(try (exfalso;first|omega|contradiction))))|((with_reducible refine ar_id ?_);(refine ar_i64 (by omega) ?_)))<;>(conv=>whnf)))
   refine dr_autos [5] 1000 tabOk (by kernel_rfl) (by decide+kernel) ?_
   replace hp:=hp.drew
   ((conv=>whnf);repeat' ((first|((with_reducible refine ar_id ?_);first|((refine ar_n (a+(q)) (by omega) (by omega) ?_))|((refine ar_n (x+1) (by omega) (by omega) ?_)))|((with_reducible refine cn_id ?_);first|(refine cn rfl ?_)|(refine cn (Chg.refl _ _) ?_))|((with_reducible refine ld_id ?_);((refine ld_own0 hp 1 rfl ‹_› _ rfl ‹_› (by rfl) ?_)))|((with_reducible refine st_id ?_);first|((refine st_ownx hp 1 rfl rfl x rfl d1[a+(q)]! rfl (by simp only [List.length_set,Array.length_toList];omega) (fun _=>rfl) rfl ?_);clear hp;intro w hp;dsimp only [List.set] at hp)|((refine st_ownx hp 1 rfl rfl (a+(q)) rfl d1[x]! rfl (by simp only [List.length_set,Array.length_toList];omega) (fun _=>rfl) rfl ?_);clear hp;intro w hp;dsimp only [List.set] at hp))|((with_reducible refine fk_id ?_);(refine fk_mk ?_ ?_))|((with_reducible refine rd_id ?_);((refine rd_ixs rfl rfl ‹_› rfl rfl (by omega) ?_))))<;>(conv=>whnf)))
   all_goals rw [swp_l] at hp
   all_goals exact lp_next (x+1,r,Sort.swp d1 x (a+(q))) (by show a+l / 4*2+3 - (x+1) < a+l / 4*2+3 - x;omega) (by (repeat' (first|exact trivial|(refine ⟨rfl,?_⟩)))) ⟨by show a≤x+1;omega,by show x+1≤_;omega,hr,by rw [Sort.size_swp];exact hs1,Sort.permIn_trans _ _ _ _ _ hP (Sort.swp_permIn _ _ _ _ _ (by omega) (by omega) (by omega) (by omega) (by omega)),hp⟩
 ·((conv=>whnf);repeat' ((first|((with_reducible refine br_id ?_);((with_reducible refine br_dec (fun hx=>?_) (fun hx=>?_))<;>(try (exfalso;first|omega|contradiction))))|((with_reducible refine ar_id ?_);first|((refine ar_n (l / 4*2) (by rw [hq];omega) (by omega) ?_))|((refine ar_n (a+l / 4*2) (by omega) (by omega) ?_))|((refine ar_n (a+l / 4*2+1) (by omega) (by omega) ?_))|(refine ar_i64 (by omega) ?_))|((with_reducible refine cn_id ?_);(refine cn (by omega) ?_)))<;>(conv=>whnf)))
  exact ps_val (v':= .tuple #[]) rfl ⟨d1,hP,rfl,hp.shut1 (j:=1) rfl⟩
end Go.Proofs.YteabebmlclgakaaGreat
