/- MPlanQuiet10: Sha, Sha2. -/
import Derived.Test.YteabebmlclgakaaGreatMPlanQuiet9
import Derived.Test.YteabebmlclgakaaGreatMPlanQuiet8
set_option linter.unusedSimpArgs false
set_option linter.unusedVariables false
/- Sha: the program's SHA-256. -/
namespace Go.Proofs.YteabebmlclgakaaGreat
open Go.RowKit
set_option maxRecDepth 100000
set_option maxHeartbeats 2000000
abbrev S8.cl (s:S8):List Value:= [u4 s.a,u4 s.b,u4 s.c,u4 s.d,u4 s.e,u4 s.f,u4 s.g,u4 s.h]
abbrev S8.vv (s:S8):Value:= .agg #[u4 s.a,u4 s.b,u4 s.c,u4 s.d,u4 s.e,u4 s.f,u4 s.g,u4 s.h]
theorem starts_any {w0:World}:Calls Tryz.prog 278 #[] w0 fun e w'=>e= .returned shaS.vv∧Chg N0 w0 w':=by
 have hp:=Hp.start (S:=N0) w0
 refine calls_x (args:= []) tabOk Tryz.func278 Tryz.ntmps278 Tryz.results278 rfl (Nat.le_of_ble_eq_true rfl) ?_
 ((conv=>whnf);repeat' ((first|((with_reducible refine cn_id ?_);(refine cn rfl ?_))|((with_reducible refine ldn_id ?_);(apply lda_hs hp;(focus repeat' constructor);exact rfl))|((with_reducible refine al_id ?_);(refine al_cel hp ?_;clear hp;intro bb w hp))|((with_reducible refine st_id ?_);(apply sta_hs hp;(focus repeat' constructor);exact rfl;exact rfl;clear hp;intro w hp;(try dsimp only [List.set] at hp)))|((with_reducible refine gen_id ?_);(apply gen_build;exact rfl;exact rfl)))<;>(conv=>whnf)))
 exact ps_val (v':=shaS.vv) rfl ⟨rfl,hp.chg⟩
theorem consts_any {w0:World}:Calls Tryz.prog 286 #[] w0 fun e w'=>e= .returned (.agg (arC u4 shaK))∧Chg N0 w0 w':=by
 have hp:=Hp.start (S:=N0) w0
 refine calls_x (args:= []) tabOk Tryz.func286 Tryz.ntmps286 Tryz.results286 rfl (Nat.le_of_ble_eq_true rfl) ?_
 ((conv=>whnf);repeat' ((first|((with_reducible refine cn_id ?_);((refine cn_arr rfl ?_)))|((with_reducible refine ldn_id ?_);((refine ldn_arr hp 0 rfl rfl ?_)))|((with_reducible refine al_id ?_);(refine al_cel hp ?_;clear hp;intro bb w hp))|((with_reducible refine st_id ?_);((refine sta_arr hp 0 rfl (shaK) rfl rfl (fun _=>rfl) ?_);clear hp;intro w hp;dsimp only [List.set] at hp))|((with_reducible refine gen_id ?_);((refine gen_build (t:=365) (out:=shaK.map u4) rfl (by kernel_rfl) ?_))))<;>(conv=>whnf)))
 exact ps_val (v':= .agg (arC u4 shaK)) rfl ⟨rfl,hp.chg⟩
theorem sched_any {B:Nat} {w0:World} {p:Sl UInt8} (hpa:SlAt B w0 u8L 1 p) (hpl:p.l.length=64):Calls Tryz.prog 285 #[p.v] w0 fun e w'=>e= .returned (.agg (arC u4 (sched (wordsOf p.l) 48)))∧Chg N0 w0 w':=by
 have hp:=Hp.start (S:=N0) w0
 have hB:∀b,N0 b→B≤b:=fun _ hh=>hh.elim
 have hwl:(wordsOf p.l).length=16:=wordsOf_len 16 p.l (by omega)
 have u1:=Tryz.underlying199
 refine calls_x (args:= [_]) tabOk Tryz.func285 Tryz.ntmps285 Tryz.results285 rfl (Nat.le_of_ble_eq_true rfl) ?_
 ((conv=>whnf);repeat' (((with_reducible refine al_id ?_);(refine al_cel hp ?_;clear hp;intro bb w hp))<;>(conv=>whnf)))
 refine cl_of (words_any (hpa.keep hp.chg hB) (by omega) (by omega)) ?_
 rintro e w ⟨r,hr,rfl,hm⟩
 replace hp:=hp.add hm
 clear hm
 refine ⟨_,rfl,?_⟩
 have hrl:r.l.length=16:=by rw [hr,hwl]
 ((conv=>whnf);repeat' (((with_reducible refine gen_id ?_);first|((refine gen_arr rfl Tryz.underlying365 rfl rfl (List.replicate 64 (0:UInt32)) rfl ?_))|((refine gen_copy rfl hp 1 rfl el_u4 rfl r rfl (hp.row (j:=0) rfl) (fun hh=>by rw [hh] at hrl;cases hrl) (fun _ _=>rfl) u4_one (n:=16) (by rw [hrl];rfl) (by decide) ?_);clear hp;intro w hp;dsimp only [List.set] at hp)|(apply gen_len;exact rfl;exact rfl;assumption))<;>(conv=>whnf)))
 have hcs:(List.take 0 (rep 64 i_u32).cells.toList++List.flatMap u4L (List.take 16 r.l)++List.drop (0+16) (rep 64 i_u32).cells.toList).toArray=arC u4 (sched (wordsOf p.l) 0++List.replicate (48 - 0) 0):=by
  rw [List.take_of_length_le (l:=r.l) (by omega),hr,flat_one]
  simp only [arC,List.map_append,List.take_zero,List.nil_append,sched]
  rfl
 rw [hcs] at hp
 clear hcs
 obtain ⟨b3,hb3⟩:∃b3,b3=bb:=⟨_,rfl⟩
 subst hb3
 obtain ⟨b2,hb2⟩:∃b2,b2=bb:=⟨_,rfl⟩
 subst hb2
 refine lp_inv (α:=Nat) (fun n=> [(2,ptr b2),(3,ptr b3),(6,i64 (16+n:Nat))]) (fun n w=>n≤48∧Hp N0 w0 w [cel b3 365 (arC u4 (sched (wordsOf p.l) n++List.replicate (48 - n) 0)),cel b2 365 (rep 64 i_u32).cells]) (fun n=>48 - n) 0 (by rw [hrl];(repeat' (first|exact trivial|(refine ⟨rfl,?_⟩)))) ⟨by omega,hp.tail⟩ ?_
 clear hp
 rintro n e0 w ⟨hn,hp⟩
 have hSl:(sched (wordsOf p.l) n).length=16+n:=by rw [sched_len,hwl]
 obtain ⟨W,hW⟩:∃W,sched (wordsOf p.l) n=W:=⟨_,rfl⟩
 rw [hW] at hp hSl
 have hg:∀{i:Nat} {x:UInt32},W[i]? =some x→(W++List.replicate (48 - n) 0)[i]? =some x:=fun h=>by rw [List.getElem?_append_left (List.getElem?_eq_some_iff.1 h).1];exact h
 rcases Nat.lt_or_ge n 48 with hlt|hge
 ·obtain ⟨x,hx⟩:=has_nth (l:=W) (i:=n+1) (by omega)
  obtain ⟨y,hy⟩:=has_nth (l:=W) (i:=n+14) (by omega)
  obtain ⟨z,hz⟩:=has_nth (l:=W) (i:=n+9) (by omega)
  obtain ⟨u,hu⟩:=has_nth (l:=W) (i:=n) (by omega)
  have key:nextW W=sumW [sg1 y,z,sg0 x,u] 0:=by
   unfold nextW
   rw [hSl,show 16+n - 2=n+14 by omega,show 16+n - 7=n+9 by omega,show 16+n - 15=n+1 by omega,show 16+n - 16=n by omega,nth_of hx,nth_of hy,nth_of hz,nth_of hu]
   simp only [sumW,UInt32.zero_add]
  replace hx:=hg hx
  replace hy:=hg hy
  replace hz:=hg hz
  replace hu:=hg hu
  ((conv=>whnf);repeat' ((first|((with_reducible refine br_id ?_);((with_reducible refine br_dec (fun hx=>?_) (fun hx=>?_))<;>(try (exfalso;first|omega|exact absurd hx ‹_› |exact absurd ‹_› hx))))|((with_reducible refine ar_id ?_);first|((refine ar_n (n+1) (by omega) (by omega) ?_))|((refine ar_n (n+14) (by omega) (by omega) ?_)))|((with_reducible refine ld_id ?_);first|((refine ld_arr hp 0 rfl (n+1) (ad1 _ _) ‹_› ?_))|((refine ld_arr hp 0 rfl (n+14) (ad1 _ _) ‹_› ?_)))|((with_reducible refine dr_id ?_);(refine dr_auto tabOk (by kernel_rfl) (by decide+kernel) ?_;(try replace hp:=hp.drew)))|((with_reducible refine rd_id ?_);((refine rd_ixa rfl rfl rfl rfl (by omega) ?_))))<;>(conv=>whnf)))
  refine cl_of (right_any x 7 (by omega)) ?_;rintro e w ⟨rfl,hc⟩;replace hp:=hp.call0 hc;clear hc;refine ⟨_,rfl,?_⟩;((conv=>whnf);repeat' ((first|((with_reducible refine br_id ?_);first|(with_reducible refine br_t ?_)|(with_reducible refine br_f ?_)|(with_reducible refine br_not ?_)|((with_reducible refine br_dec (fun hx=>?_) (fun hx=>?_))<;>(try (exfalso;first|omega|exact absurd hx ‹_› |exact absurd ‹_› hx)))|((with_reducible refine br_eq (fun hx=>?_) (fun hx=>?_))<;>(try (exfalso;first|omega|exact absurd hx ‹_› |exact absurd ‹_› hx)))|((with_reducible refine br_ne (fun hx=>?_) (fun hx=>?_))<;>(try (exfalso;first|omega|exact absurd hx ‹_› |exact absurd ‹_› hx)))|((with_reducible refine br_s (fun hx=>?_) (fun hx=>?_))<;>(try (exfalso;first|omega|exact absurd hx ‹_› |exact absurd ‹_› hx))))|((with_reducible refine ar_id ?_);first|(refine ar_i64 (by omega) ?_)|(refine ar_u32 (by omega) ?_)|(refine ar_u64 (by omega) ?_)|(refine ar_u8 (by omega) ?_))|((with_reducible refine cn_id ?_);first|(refine cn rfl ?_)|(refine cn ‹_› ?_)|(refine cn (by omega) ?_)|(refine cn (Chg.refl _ _) ?_))|((with_reducible refine ld_id ?_);first|(apply ld_hs hp;(focus repeat' constructor);exact rfl)|(refine ld_of ‹_› ?_))|((with_reducible refine ldn_id ?_);first|(apply lda_hs hp;(focus repeat' constructor);exact rfl)|(apply ldn_hs hp;(focus repeat' constructor);exact rfl;exact rfl))|((with_reducible refine al_id ?_);(refine al_cel hp ?_;clear hp;intro bb w hp))|((with_reducible refine st_id ?_);first|(apply sta_hs hp;(focus repeat' constructor);exact rfl;exact rfl;clear hp;intro w hp;(try dsimp only [List.set] at hp))|(apply st_hs hp;(focus repeat' constructor);exact rfl;exact rfl;clear hp;intro w hp;(try dsimp only [List.set] at hp)))|((with_reducible refine gen_id ?_);first|(apply gen_build;exact rfl;exact rfl)|(apply gen_len;exact rfl;exact rfl;assumption)|(apply gen_min;exact rfl;exact rfl;exact rfl)|(apply gen_max;exact rfl;exact rfl;exact rfl)|(apply gen_ix;exact rfl;exact rfl;exact rfl;exact rfl;omega)|(apply gen_ixa;exact rfl;exact rfl;exact rfl;exact rfl;omega))|((with_reducible refine dr_id ?_);first|(refine dr_auto tabOk (by kernel_rfl) (by decide+kernel) ?_;(try replace hp:=hp.drew))|(refine dr_autog tabOk (by kernel_rfl) (by decide+kernel) ?_;(try replace hp:=hp.drew))|(refine dr_autot tabOk (by kernel_rfl) (by decide+kernel) ?_;(try replace hp:=hp.drew)))|((with_reducible refine fk_id ?_);(refine fk_mk ?_ ?_))|((with_reducible refine rd_id ?_);first|(apply rd_len;exact rfl;exact rfl;assumption)|(apply rd_ix;exact rfl;exact rfl;exact rfl;exact rfl;omega)))<;>(conv=>whnf)))
  refine cl_of (right_any x 18 (by omega)) ?_;rintro e w ⟨rfl,hc⟩;replace hp:=hp.call0 hc;clear hc;refine ⟨_,rfl,?_⟩;((conv=>whnf);repeat' (((with_reducible refine gen_id ?_);((refine gen_shr rfl _ _ rfl rfl (Int.toNat_of_nonneg (by decide)).symm (by decide) ?_)))<;>(conv=>whnf)))
  refine cl_of (xor_any (rot x 7) (rot x 18) (sr x 3)) ?_;rintro e w ⟨rfl,hc⟩;replace hp:=hp.call0 hc;clear hc;refine ⟨_,rfl,?_⟩;((conv=>whnf);repeat' ((first|((with_reducible refine br_id ?_);first|(with_reducible refine br_t ?_)|(with_reducible refine br_f ?_)|(with_reducible refine br_not ?_)|((with_reducible refine br_dec (fun hx=>?_) (fun hx=>?_))<;>(try (exfalso;first|omega|exact absurd hx ‹_› |exact absurd ‹_› hx)))|((with_reducible refine br_eq (fun hx=>?_) (fun hx=>?_))<;>(try (exfalso;first|omega|exact absurd hx ‹_› |exact absurd ‹_› hx)))|((with_reducible refine br_ne (fun hx=>?_) (fun hx=>?_))<;>(try (exfalso;first|omega|exact absurd hx ‹_› |exact absurd ‹_› hx)))|((with_reducible refine br_s (fun hx=>?_) (fun hx=>?_))<;>(try (exfalso;first|omega|exact absurd hx ‹_› |exact absurd ‹_› hx))))|((with_reducible refine ar_id ?_);first|(refine ar_i64 (by omega) ?_)|(refine ar_u32 (by omega) ?_)|(refine ar_u64 (by omega) ?_)|(refine ar_u8 (by omega) ?_))|((with_reducible refine cn_id ?_);first|(refine cn rfl ?_)|(refine cn ‹_› ?_)|(refine cn (by omega) ?_)|(refine cn (Chg.refl _ _) ?_))|((with_reducible refine ld_id ?_);first|(apply ld_hs hp;(focus repeat' constructor);exact rfl)|(refine ld_of ‹_› ?_))|((with_reducible refine ldn_id ?_);first|(apply lda_hs hp;(focus repeat' constructor);exact rfl)|(apply ldn_hs hp;(focus repeat' constructor);exact rfl;exact rfl))|((with_reducible refine al_id ?_);(refine al_cel hp ?_;clear hp;intro bb w hp))|((with_reducible refine st_id ?_);first|(apply sta_hs hp;(focus repeat' constructor);exact rfl;exact rfl;clear hp;intro w hp;(try dsimp only [List.set] at hp))|(apply st_hs hp;(focus repeat' constructor);exact rfl;exact rfl;clear hp;intro w hp;(try dsimp only [List.set] at hp)))|((with_reducible refine gen_id ?_);first|(apply gen_build;exact rfl;exact rfl)|(apply gen_len;exact rfl;exact rfl;assumption)|(apply gen_min;exact rfl;exact rfl;exact rfl)|(apply gen_max;exact rfl;exact rfl;exact rfl)|(apply gen_ix;exact rfl;exact rfl;exact rfl;exact rfl;omega)|(apply gen_ixa;exact rfl;exact rfl;exact rfl;exact rfl;omega))|((with_reducible refine dr_id ?_);first|(refine dr_auto tabOk (by kernel_rfl) (by decide+kernel) ?_;(try replace hp:=hp.drew))|(refine dr_autog tabOk (by kernel_rfl) (by decide+kernel) ?_;(try replace hp:=hp.drew))|(refine dr_autot tabOk (by kernel_rfl) (by decide+kernel) ?_;(try replace hp:=hp.drew)))|((with_reducible refine fk_id ?_);(refine fk_mk ?_ ?_))|((with_reducible refine rd_id ?_);first|(apply rd_len;exact rfl;exact rfl;assumption)|(apply rd_ix;exact rfl;exact rfl;exact rfl;exact rfl;omega)))<;>(conv=>whnf)))
  refine cl_of (right_any y 17 (by omega)) ?_;rintro e w ⟨rfl,hc⟩;replace hp:=hp.call0 hc;clear hc;refine ⟨_,rfl,?_⟩;((conv=>whnf);repeat' ((first|((with_reducible refine br_id ?_);first|(with_reducible refine br_t ?_)|(with_reducible refine br_f ?_)|(with_reducible refine br_not ?_)|((with_reducible refine br_dec (fun hx=>?_) (fun hx=>?_))<;>(try (exfalso;first|omega|exact absurd hx ‹_› |exact absurd ‹_› hx)))|((with_reducible refine br_eq (fun hx=>?_) (fun hx=>?_))<;>(try (exfalso;first|omega|exact absurd hx ‹_› |exact absurd ‹_› hx)))|((with_reducible refine br_ne (fun hx=>?_) (fun hx=>?_))<;>(try (exfalso;first|omega|exact absurd hx ‹_› |exact absurd ‹_› hx)))|((with_reducible refine br_s (fun hx=>?_) (fun hx=>?_))<;>(try (exfalso;first|omega|exact absurd hx ‹_› |exact absurd ‹_› hx))))|((with_reducible refine ar_id ?_);first|(refine ar_i64 (by omega) ?_)|(refine ar_u32 (by omega) ?_)|(refine ar_u64 (by omega) ?_)|(refine ar_u8 (by omega) ?_))|((with_reducible refine cn_id ?_);first|(refine cn rfl ?_)|(refine cn ‹_› ?_)|(refine cn (by omega) ?_)|(refine cn (Chg.refl _ _) ?_))|((with_reducible refine ld_id ?_);first|(apply ld_hs hp;(focus repeat' constructor);exact rfl)|(refine ld_of ‹_› ?_))|((with_reducible refine ldn_id ?_);first|(apply lda_hs hp;(focus repeat' constructor);exact rfl)|(apply ldn_hs hp;(focus repeat' constructor);exact rfl;exact rfl))|((with_reducible refine al_id ?_);(refine al_cel hp ?_;clear hp;intro bb w hp))|((with_reducible refine st_id ?_);first|(apply sta_hs hp;(focus repeat' constructor);exact rfl;exact rfl;clear hp;intro w hp;(try dsimp only [List.set] at hp))|(apply st_hs hp;(focus repeat' constructor);exact rfl;exact rfl;clear hp;intro w hp;(try dsimp only [List.set] at hp)))|((with_reducible refine gen_id ?_);first|(apply gen_build;exact rfl;exact rfl)|(apply gen_len;exact rfl;exact rfl;assumption)|(apply gen_min;exact rfl;exact rfl;exact rfl)|(apply gen_max;exact rfl;exact rfl;exact rfl)|(apply gen_ix;exact rfl;exact rfl;exact rfl;exact rfl;omega)|(apply gen_ixa;exact rfl;exact rfl;exact rfl;exact rfl;omega))|((with_reducible refine dr_id ?_);first|(refine dr_auto tabOk (by kernel_rfl) (by decide+kernel) ?_;(try replace hp:=hp.drew))|(refine dr_autog tabOk (by kernel_rfl) (by decide+kernel) ?_;(try replace hp:=hp.drew))|(refine dr_autot tabOk (by kernel_rfl) (by decide+kernel) ?_;(try replace hp:=hp.drew)))|((with_reducible refine fk_id ?_);(refine fk_mk ?_ ?_))|((with_reducible refine rd_id ?_);first|(apply rd_len;exact rfl;exact rfl;assumption)|(apply rd_ix;exact rfl;exact rfl;exact rfl;exact rfl;omega)))<;>(conv=>whnf)))
  refine cl_of (right_any y 19 (by omega)) ?_;rintro e w ⟨rfl,hc⟩;replace hp:=hp.call0 hc;clear hc;refine ⟨_,rfl,?_⟩;((conv=>whnf);repeat' (((with_reducible refine gen_id ?_);((refine gen_shr rfl _ _ rfl rfl (Int.toNat_of_nonneg (by decide)).symm (by decide) ?_)))<;>(conv=>whnf)))
  refine cl_of (xor_any (rot y 17) (rot y 19) (sr y 10)) ?_;rintro e w ⟨rfl,hc⟩;replace hp:=hp.call0 hc;clear hc;refine ⟨_,rfl,?_⟩;((conv=>whnf);repeat' ((first|((with_reducible refine ar_id ?_);first|((refine ar_n (n+9) (by omega) (by omega) ?_))|((refine ar_n (n) (by omega) (by omega) ?_)))|((with_reducible refine ld_id ?_);first|((refine ld_arr hp 0 rfl (n+9) (ad1 _ _) ‹_› ?_))|((refine ld_arr hp 0 rfl (n) (ad1 _ _) ‹_› ?_)))|((with_reducible refine gen_id ?_);((refine gen_bs rfl hp el_u4 u4L ([sg1 y,z,sg0 x,u]) (([sg1 y,z,sg0 x,u]).map u4) rfl rfl rfl (fun _ hh=>rfl) (by omega) ?_);clear hp;intro br w hp))|((with_reducible refine dr_id ?_);(refine dr_auto tabOk (by kernel_rfl) (by decide+kernel) ?_;(try replace hp:=hp.drew)))|((with_reducible refine rd_id ?_);((refine rd_ixa rfl rfl rfl rfl (by omega) ?_))))<;>(conv=>whnf)))
  refine cl_of (add_any (s:=⟨some ⟨br,0,none⟩,4, [sg1 y,z,sg0 x,u]⟩) (hp.row (j:=0) rfl)) ?_
  rintro e w ⟨rfl,hc⟩
  replace hp:=hp.call0 hc
  refine ⟨_,rfl,?_⟩
  ((conv=>whnf);repeat' ((first|((with_reducible refine ar_id ?_);(refine ar_i64 (by omega) ?_))|((with_reducible refine cn_id ?_);(refine cn rfl ?_))|((with_reducible refine st_id ?_);((refine st_arr hp 1 rfl (16+n) (ad1 _ _) (sumW [sg1 y,z,sg0 x,u] 0) rfl (by simp only [List.length_append,List.length_replicate];omega) rfl ?_);clear hp;intro w hp;dsimp only [List.set] at hp))|((with_reducible refine gen_id ?_);(apply gen_ixa;exact rfl;exact rfl;exact rfl;exact rfl;omega)))<;>(conv=>whnf)))
  rw [show 48 - n=(48 - (n+1))+1 by omega,app_step hSl,←key,←hW] at hp
  exact lp_next (n+1) (by omega) (by (repeat' (first|exact trivial|(refine ⟨rfl,?_⟩)))) ⟨by omega,hp.tail⟩
 ·obtain rfl:n=48:=by omega
  have hl:(W++List.replicate (48 - 48) 0).length=64:=by simp [hSl]
  ((conv=>whnf);repeat' ((first|((with_reducible refine br_id ?_);((with_reducible refine br_dec (fun hx=>?_) (fun hx=>?_))<;>(try (exfalso;first|omega|exact absurd hx ‹_› |exact absurd ‹_› hx))))|((with_reducible refine cn_id ?_);((refine cn_arr hl ?_)))|((with_reducible refine ldn_id ?_);first|((refine ldn_arr hp 0 rfl hl ?_))|((refine ldn_arr hp 1 rfl hl ?_)))|((with_reducible refine st_id ?_);((refine sta_arr hp 1 rfl (W++List.replicate (48 - 48) 0) rfl hl (fun _=>rfl) ?_);clear hp;intro w hp;dsimp only [List.set] at hp)))<;>(conv=>whnf)))
  refine ps_val (v':= .agg (arC u4 W)) ?_ ⟨by rw [hW],hp.chg⟩
  show Value.agg (arC u4 (W++ []))=_
  rw [List.append_nil]
abbrev tC (v:S8) (k w:UInt32):UInt32:=sumW [v.h,ep1 v.e,ch v.e v.f v.g,k,w] 0
abbrev tD (v:S8):UInt32:=sumW [ep0 v.a,maj v.a v.b v.c] 0
abbrev shaC (s:S8) (r:Sl UInt8) (n:Nat):List Value:= [u4 s.a,u4 s.b,u4 s.c,u4 s.d,u4 s.e,u4 s.f,u4 s.g,u4 s.h,r.v, .int .u64 (n:Int)]
theorem take_any {B:Nat} {w0:World} {p:Sl UInt8} (hpa:SlAt B w0 u8L 1 p) (v0:S8) (hpl:p.l.length=64):Calls Tryz.prog 279 #[v0.vv,p.v] w0 fun e w'=>e= .returned (takeS v0 p.l).vv∧Chg N0 w0 w':=by
 have hp:=Hp.start (S:=N0) w0
 have hB:∀b,N0 b→B≤b:=fun _ hh=>hh.elim
 have u1:=Tryz.underlying199
 refine calls_x (args:= [_,_]) tabOk Tryz.func279 Tryz.ntmps279 Tryz.results279 rfl (Nat.le_of_ble_eq_true rfl) ?_
 ((conv=>whnf);repeat' (((with_reducible refine al_id ?_);(refine al_cel hp ?_;clear hp;intro bb w hp))<;>(conv=>whnf)))
 obtain ⟨b4,hb4⟩:∃b,b=bb:=⟨_,rfl⟩
 subst hb4
 obtain ⟨b2,hb2⟩:∃b,b=bb:=⟨_,rfl⟩
 subst hb2
 have hWl:(sched (wordsOf p.l) 48).length=64:=by rw [sched_len,wordsOf_len 16 p.l (by omega)]
 obtain ⟨W,hW⟩:∃W,sched (wordsOf p.l) 48=W:=⟨_,rfl⟩
 rw [hW] at hWl
 refine dr_cut (fun e w=>∃b5 b6 b7 e0,e=eat [(2,ptr b2),(4,ptr b4),(5,ptr b5),(6,ptr b6),(7,ptr b7)] ⟨e0, []⟩∧Hp N0 w0 w [cel b5 365 (arC u4 W),cel b6 365 (arC u4 shaK),cel b7 357 v0.cl.toArray,cel b4 357 (rep 8 i_u32).cells,cel b2 357 v0.cl.toArray]) ?_ ?_
 ·refine dr_autou tabOk (by kernel_rfl) (by decide+kernel) ?_
  have hp0:=hp.drew
  clear hp
  have hp:=Hp.start (S:=N0) w.drew
  have hsl:∀{w':World},Chg N0 w.drew w'→Calls Tryz.prog 285 #[p.v] w' fun e w''=>e= .returned (.agg (arC u4 W))∧Chg N0 w' w'':=fun hc=>hW▸sched_any ((hpa.keep hp0.chg hB).keep hc hB) hpl
  ((conv=>whnf);repeat' ((first|((with_reducible refine cn_id ?_);first|((refine cn hp.chg ?_))|((refine cn_arr hWl ?_))|((refine cn_arr (l:=shaK) rfl ?_))|(refine cn rfl ?_))|((with_reducible refine ldn_id ?_);((refine ldn_all hp0 1 rfl rfl ?_)))|((with_reducible refine al_id ?_);(refine al_cel hp ?_;clear hp;intro bb w hp))|((with_reducible refine st_id ?_);first|((refine sta_arr hp 0 rfl (W) rfl hWl (fun _=>rfl) ?_);clear hp;intro w hp;dsimp only [List.set] at hp)|((refine sta_arr hp 1 rfl (W) rfl hWl (fun _=>rfl) ?_);clear hp;intro w hp;dsimp only [List.set] at hp)|((refine sta_arr hp 2 rfl (W) rfl hWl (fun _=>rfl) ?_);clear hp;intro w hp;dsimp only [List.set] at hp)|((refine sta_arr hp 0 rfl (shaK) rfl rfl (fun _=>rfl) ?_);clear hp;intro w hp;dsimp only [List.set] at hp)|((refine sta_arr hp 1 rfl (shaK) rfl rfl (fun _=>rfl) ?_);clear hp;intro w hp;dsimp only [List.set] at hp)|((refine sta_arr hp 2 rfl (shaK) rfl rfl (fun _=>rfl) ?_);clear hp;intro w hp;dsimp only [List.set] at hp)|(apply sta_hs hp;(focus repeat' constructor);exact rfl;exact rfl;clear hp;intro w hp;(try dsimp only [List.set] at hp)))|((with_reducible refine fk_id ?_);(refine fk_mk ?_ ?_))|((with_reducible refine cl_id ?_);first|((refine cl_eq (hsl hp.chg) rfl rfl ?_;rintro e w ⟨rfl,hcc⟩;replace hp:=hp.call0 hcc;refine ⟨_,rfl,?_⟩))|((refine cl_eq (consts_any) rfl rfl ?_;rintro e w ⟨rfl,hcc⟩;replace hp:=hp.call0 hcc;refine ⟨_,rfl,?_⟩))))<;>(conv=>whnf)))
  all_goals
   refine ⟨_,_,_,_,eat_holds (by (repeat' (first|exact trivial|(refine ⟨rfl,?_⟩)))),?_⟩
   first
    |exact hp0.join hp
    |exact hp0.join (hp.perm (perm213 ..))
    |exact hp0.join (hp.perm (perm132 ..))
    |exact hp0.join (hp.perm (perm231 ..))
    |exact hp0.join (hp.perm (perm312 ..))
    |exact hp0.join (hp.perm (perm321 ..))
 ·clear hp
  rintro e w ⟨b5,b6,b7,e0,rfl,hp⟩
  ((conv=>whnf);repeat' ((first|((with_reducible refine br_id ?_);first|(with_reducible refine br_t ?_)|(with_reducible refine br_f ?_)|(with_reducible refine br_not ?_)|((with_reducible refine br_dec (fun hx=>?_) (fun hx=>?_))<;>(try (exfalso;first|omega|exact absurd hx ‹_› |exact absurd ‹_› hx)))|((with_reducible refine br_eq (fun hx=>?_) (fun hx=>?_))<;>(try (exfalso;first|omega|exact absurd hx ‹_› |exact absurd ‹_› hx)))|((with_reducible refine br_ne (fun hx=>?_) (fun hx=>?_))<;>(try (exfalso;first|omega|exact absurd hx ‹_› |exact absurd ‹_› hx)))|((with_reducible refine br_s (fun hx=>?_) (fun hx=>?_))<;>(try (exfalso;first|omega|exact absurd hx ‹_› |exact absurd ‹_› hx))))|((with_reducible refine ar_id ?_);first|(refine ar_i64 (by omega) ?_)|(refine ar_u32 (by omega) ?_)|(refine ar_u64 (by omega) ?_)|(refine ar_u8 (by omega) ?_))|((with_reducible refine cn_id ?_);first|(refine cn rfl ?_)|(refine cn ‹_› ?_)|(refine cn (by omega) ?_)|(refine cn (Chg.refl _ _) ?_))|((with_reducible refine ld_id ?_);first|(apply ld_hs hp;(focus repeat' constructor);exact rfl)|(refine ld_of ‹_› ?_))|((with_reducible refine ldn_id ?_);first|(apply lda_hs hp;(focus repeat' constructor);exact rfl)|(apply ldn_hs hp;(focus repeat' constructor);exact rfl;exact rfl))|((with_reducible refine al_id ?_);(refine al_cel hp ?_;clear hp;intro bb w hp))|((with_reducible refine st_id ?_);first|(apply sta_hs hp;(focus repeat' constructor);exact rfl;exact rfl;clear hp;intro w hp;(try dsimp only [List.set] at hp))|(apply st_hs hp;(focus repeat' constructor);exact rfl;exact rfl;clear hp;intro w hp;(try dsimp only [List.set] at hp)))|((with_reducible refine gen_id ?_);first|(apply gen_build;exact rfl;exact rfl)|(apply gen_len;exact rfl;exact rfl;assumption)|(apply gen_min;exact rfl;exact rfl;exact rfl)|(apply gen_max;exact rfl;exact rfl;exact rfl)|(apply gen_ix;exact rfl;exact rfl;exact rfl;exact rfl;omega)|(apply gen_ixa;exact rfl;exact rfl;exact rfl;exact rfl;omega))|((with_reducible refine dr_id ?_);first|(refine dr_auto tabOk (by kernel_rfl) (by decide+kernel) ?_;(try replace hp:=hp.drew))|(refine dr_autog tabOk (by kernel_rfl) (by decide+kernel) ?_;(try replace hp:=hp.drew))|(refine dr_autot tabOk (by kernel_rfl) (by decide+kernel) ?_;(try replace hp:=hp.drew)))|((with_reducible refine fk_id ?_);(refine fk_mk ?_ ?_))|((with_reducible refine rd_id ?_);first|(apply rd_len;exact rfl;exact rfl;assumption)|(apply rd_ix;exact rfl;exact rfl;exact rfl;exact rfl;omega)))<;>(conv=>whnf)))
  refine lp_inv (α:=Nat) (fun i=> [(2,ptr b2),(4,ptr b4),(5,ptr b5),(6,ptr b6),(7,ptr b7),(19,i64 i)]) (fun i w=>i≤64∧Hp N0 w0 w [cel b5 365 (arC u4 W),cel b6 365 (arC u4 shaK),cel b7 357 (rnds W v0 i).cl.toArray,cel b4 357 (rep 8 i_u32).cells,cel b2 357 v0.cl.toArray]) (fun i=>64 - i) 0 (by (repeat' (first|exact trivial|(refine ⟨rfl,?_⟩)))) ⟨by omega,hp⟩ ?_
  clear hp
  rintro i e0 w ⟨hi,hp⟩
  obtain ⟨v,hv⟩:∃v,rnds W v0 i=v:=⟨_,rfl⟩
  rw [hv] at hp
  rcases Nat.lt_or_ge i 64 with hlt|hge
  ·obtain ⟨ww,hww⟩:=has_nth (l:=W) (i:=i) (by omega)
   obtain ⟨kk,hkk⟩:=has_nth (l:=shaK) (i:=i) hlt
   have key:rnds W v0 (i+1)=rnd kk ww v:=by rw [rnds,hv,nth_of hww,nth_of hkk]
   ((conv=>whnf);repeat' ((first|((with_reducible refine br_id ?_);((with_reducible refine br_dec (fun hx=>?_) (fun hx=>?_))<;>(try (exfalso;first|omega|exact absurd hx ‹_› |exact absurd ‹_› hx))))|((with_reducible refine cn_id ?_);(refine cn ‹_› ?_))|((with_reducible refine ld_id ?_);first|((refine ld_arr hp 0 rfl (i) (ad1 _ _) ‹_› ?_))|((refine ld_arr hp 1 rfl (i) (ad1 _ _) ‹_› ?_))|(apply ld_hs hp;(focus repeat' constructor);exact rfl))|((with_reducible refine gen_id ?_);((refine gen_bs rfl hp el_u4 u4L ([v.h,ep1 v.e,ch v.e v.f v.g,kk,ww]) (([v.h,ep1 v.e,ch v.e v.f v.g,kk,ww]).map u4) rfl rfl rfl (fun _ hh=>rfl) (by omega) ?_);clear hp;intro br w hp))|((with_reducible refine dr_id ?_);first|(refine dr_auto tabOk (by kernel_rfl) (by decide+kernel) ?_;(try replace hp:=hp.drew))|(refine dr_autog tabOk (by kernel_rfl) (by decide+kernel) ?_;(try replace hp:=hp.drew)))|((with_reducible refine cl_id ?_);first|((refine cl_eq (right_any v.e 6 (by omega)) rfl rfl ?_;rintro e w ⟨rfl,hcc⟩;replace hp:=hp.call0 hcc;refine ⟨_,rfl,?_⟩))|((refine cl_eq (right_any v.e 11 (by omega)) rfl rfl ?_;rintro e w ⟨rfl,hcc⟩;replace hp:=hp.call0 hcc;refine ⟨_,rfl,?_⟩))|((refine cl_eq (right_any v.e 25 (by omega)) rfl rfl ?_;rintro e w ⟨rfl,hcc⟩;replace hp:=hp.call0 hcc;refine ⟨_,rfl,?_⟩))|((refine cl_eq (xor_any (rot v.e 6) (rot v.e 11) (rot v.e 25)) rfl rfl ?_;rintro e w ⟨rfl,hcc⟩;replace hp:=hp.call0 hcc;refine ⟨_,rfl,?_⟩))|((refine cl_eq (choose_any v.e v.f v.g) rfl rfl ?_;rintro e w ⟨rfl,hcc⟩;replace hp:=hp.call0 hcc;refine ⟨_,rfl,?_⟩))|((refine cl_eq ((add_any (s:=⟨some ⟨br,0,none⟩,5, [v.h,ep1 v.e,ch v.e v.f v.g,kk,ww]⟩) (hp.row (j:=0) rfl))) rfl rfl ?_;rintro e w ⟨rfl,hcc⟩;replace hp:=hp.call0 hcc;refine ⟨_,rfl,?_⟩)))|((with_reducible refine rd_id ?_);((refine rd_ixa rfl rfl rfl rfl (by omega) ?_))))<;>(conv=>whnf)))
   ((conv=>whnf);repeat' ((first|((with_reducible refine ar_id ?_);first|((refine ar_u4add _ _ ?_))|(refine ar_i64 (by omega) ?_))|((with_reducible refine cn_id ?_);first|(refine cn rfl ?_)|(refine cn ‹_› ?_))|((with_reducible refine ld_id ?_);(apply ld_hs hp;(focus repeat' constructor);exact rfl))|((with_reducible refine st_id ?_);(apply sta_hs hp;(focus repeat' constructor);exact rfl;exact rfl;clear hp;intro w hp;(try dsimp only [List.set] at hp)))|((with_reducible refine gen_id ?_);first|((refine gen_bs rfl hp el_u4 u4L ([ep0 v.a,maj v.a v.b v.c]) (([ep0 v.a,maj v.a v.b v.c]).map u4) rfl rfl rfl (fun _ hh=>rfl) (by omega) ?_);clear hp;intro br w hp)|((refine gen_build (t:=357) (out:= [u4 (tC v kk ww+tD v),u4 v.a,u4 v.b,u4 v.c,u4 (v.d+tC v kk ww),u4 v.e,u4 v.f,u4 v.g]) rfl (by kernel_rfl) ?_))|(apply gen_ixa;exact rfl;exact rfl;exact rfl;exact rfl;omega))|((with_reducible refine cl_id ?_);first|((refine cl_eq (right_any v.a 2 (by omega)) rfl rfl ?_;rintro e w ⟨rfl,hcc⟩;replace hp:=hp.call0 hcc;refine ⟨_,rfl,?_⟩))|((refine cl_eq (right_any v.a 13 (by omega)) rfl rfl ?_;rintro e w ⟨rfl,hcc⟩;replace hp:=hp.call0 hcc;refine ⟨_,rfl,?_⟩))|((refine cl_eq (right_any v.a 22 (by omega)) rfl rfl ?_;rintro e w ⟨rfl,hcc⟩;replace hp:=hp.call0 hcc;refine ⟨_,rfl,?_⟩))|((refine cl_eq (xor_any (rot v.a 2) (rot v.a 13) (rot v.a 22)) rfl rfl ?_;rintro e w ⟨rfl,hcc⟩;replace hp:=hp.call0 hcc;refine ⟨_,rfl,?_⟩))|((refine cl_eq (majority_any v.a v.b v.c) rfl rfl ?_;rintro e w ⟨rfl,hcc⟩;replace hp:=hp.call0 hcc;refine ⟨_,rfl,?_⟩))|((refine cl_eq ((add_any (s:=⟨some ⟨br,0,none⟩,2, [ep0 v.a,maj v.a v.b v.c]⟩) (hp.row (j:=0) rfl))) rfl rfl ?_;rintro e w ⟨rfl,hcc⟩;replace hp:=hp.call0 hcc;refine ⟨_,rfl,?_⟩))))<;>(conv=>whnf)))
   refine lp_next (i+1) (by omega) (by (repeat' (first|exact trivial|(refine ⟨rfl,?_⟩)))) ⟨by omega,?_⟩
   have hs1:tC v kk ww=(((v.h+ep1 v.e)+ch v.e v.f v.g)+kk)+ww:=by simp only [sumW,UInt32.zero_add]
   have hs2:tD v=ep0 v.a+maj v.a v.b v.c:=by simp only [sumW,UInt32.zero_add]
   rw [hs1,hs2] at hp
   rw [key]
   exact hp.tail.tail
  ·obtain rfl:i=64:=by omega
   ((conv=>whnf);repeat' ((first|((with_reducible refine br_id ?_);((with_reducible refine br_dec (fun hx=>?_) (fun hx=>?_))<;>(try (exfalso;first|omega|exact absurd hx ‹_› |exact absurd ‹_› hx))))|((with_reducible refine ldn_id ?_);(apply lda_hs hp;(focus repeat' constructor);exact rfl)))<;>(conv=>whnf)))
   refine lp_inv (α:=Nat×List UInt32) (fun a=> [(2,ptr b2),(4,ptr b4),(83,v.vv),(84,i64 a.1)]) (fun a w=>a.1≤8∧a.2.length=8∧(∀j,j < 8→a.2[j]? =some (if j < a.1 then nth v.l j+nth v0.l j else nth v0.l j))∧Hp N0 w0 w [cel b4 357 (rep 8 i_u32).cells,cel b2 357 (arC u4 a.2)]) (fun a=>8 - a.1) (0,v0.l) (by (repeat' (first|exact trivial|(refine ⟨rfl,?_⟩)))) ⟨by omega,rfl,fun j hj=>by rw [if_neg (by omega)];exact nth_get hj,hp.tail.tail.tail⟩ ?_
   clear hp
   rintro ⟨i,L⟩ e0 w ⟨hi,hL,hf,hp⟩
   dsimp only at hi hL hf hp ⊢
   rcases Nat.lt_or_ge i 8 with hlt|hge
   ·have hvi:v.l[i]? =some (nth v.l i):=nth_get hlt
    have hy:L[i]? =some (nth v0.l i):=by rw [hf i hlt,if_neg (by omega)]
    ((conv=>whnf);repeat' ((first|((with_reducible refine br_id ?_);((with_reducible refine br_dec (fun hx=>?_) (fun hx=>?_))<;>(try (exfalso;first|omega|exact absurd hx ‹_› |exact absurd ‹_› hx))))|((with_reducible refine ar_id ?_);first|((refine ar_u4add _ _ ?_))|(refine ar_i64 (by omega) ?_))|((with_reducible refine cn_id ?_);(refine cn rfl ?_))|((with_reducible refine ld_id ?_);((refine ld_arr hp 1 rfl (i) (ad1 _ _) ‹_› ?_)))|((with_reducible refine st_id ?_);((refine st_arr hp 1 rfl (i) (ad1 _ _) (nth v0.l i+nth v.l i) rfl (by omega) rfl ?_);clear hp;intro w hp;dsimp only [List.set] at hp))|((with_reducible refine gen_id ?_);first|((refine gen_arx rfl Tryz.underlying357 (TabOk.lay tabOk rfl) (f:=u4) (l:=v.l) rfl rfl (by omega) i rfl hvi ?_))|(apply gen_ixa;exact rfl;exact rfl;exact rfl;exact rfl;omega)))<;>(conv=>whnf)))
    refine lp_next (i+1,L.set i (nth v0.l i+nth v.l i)) ?_ (by (repeat' (first|exact trivial|(refine ⟨rfl,?_⟩)))) ⟨by show i+1≤8;omega,by show (L.set i _).length=8;rw [List.length_set];exact hL,fun j hj=>?_,hp⟩
    ·show 8 - (i+1) < 8 - i;omega
    ·show (L.set i (nth v0.l i+nth v.l i))[j]? =some (if j < i+1 then nth v.l j+nth v0.l j else nth v0.l j)
     rw [List.getElem?_set]
     by_cases hij:i=j
     ·subst hij
      rw [if_pos rfl,if_pos (by omega),if_pos (by omega),UInt32.add_comm]
     ·rw [if_neg hij,hf j hj]
      by_cases hj2:j < i
      ·rw [if_pos hj2,if_pos (by omega)]
      ·rw [if_neg hj2,if_neg (by omega)]
   ·obtain rfl:i=8:=by omega
    ((conv=>whnf);repeat' ((first|((with_reducible refine br_id ?_);((with_reducible refine br_dec (fun hx=>?_) (fun hx=>?_))<;>(try (exfalso;first|omega|exact absurd hx ‹_› |exact absurd ‹_› hx))))|((with_reducible refine cn_id ?_);((refine cn_arr hL ?_)))|((with_reducible refine ldn_id ?_);first|((refine ldn_arr hp 0 rfl hL ?_))|((refine ldn_arr hp 1 rfl hL ?_)))|((with_reducible refine st_id ?_);((refine sta_arr hp 0 rfl (L) rfl hL (fun _=>rfl) ?_);clear hp;intro w hp;dsimp only [List.set] at hp)))<;>(conv=>whnf)))
    have hLe:=eight hL (f:=fun j=>nth v.l j+nth v0.l j) (fun j hj=>by rw [hf j hj,if_pos hj])
    refine ps_val (v':= .agg (arC u4 L)) rfl ⟨?_,hp.chg⟩
    rw [hLe,takeS,hW,hv]
    rfl
end Go.Proofs.YteabebmlclgakaaGreat
/- Sha2: the program's hash: what it is told, what it tells. -/
namespace Go.Proofs.YteabebmlclgakaaGreat
open Go.RowKit
set_option maxRecDepth 100000
set_option maxHeartbeats 2000000
abbrev hashC (m:List UInt8) (r:Sl UInt8):List Value:=shaC (doneS m) r m.length
abbrev hashRs (b:Nat) (m:List UInt8) (r:Sl UInt8):List Res:= [cel b 360 (hashC m r).toArray,rowR 5 1 u8L r]
theorem new_any {w0:World}:Calls Tryz.prog 269 #[] w0 fun e w'=>∃b,e= .returned (ptr b)∧Made (star (hashRs b [] Sl.nil)) w0 w':=by
 have hp:=Hp.start (S:=N0) w0
 refine calls_x (args:= []) tabOk Tryz.func269 Tryz.ntmps269 Tryz.results269 rfl (Nat.le_of_ble_eq_true rfl) ?_
 ((conv=>whnf);repeat' ((first|((with_reducible refine al_id ?_);(refine al_cel hp ?_;clear hp;intro bb w hp))|((with_reducible refine gen_id ?_);((refine gen_build (t:=360) (out:=hashC [] Sl.nil) rfl (by kernel_rfl) ?_)))|((with_reducible refine cl_id ?_);((refine cl_eq (starts_any) rfl rfl ?_;rintro e w ⟨rfl,hcc⟩;replace hp:=hp.call0 hcc;refine ⟨_,rfl,?_⟩))))<;>(conv=>whnf)))
 have hp0:Hp N0 w0 w [rowR 5 1 u8L Sl.nil,cel bb 360 (hashC [] Sl.nil).toArray]:=hp.new (Chg.refl _ _) (rowR_ok.2 ⟨World.ownsRow_nil w 0 _ _,by simp [Sl.nil]⟩) fun b hb=>by have h1:=rowR_dom.1 hb;cases h1
 exact ps_of ⟨_,rfl,(hp0.perm (.swap ..)).made (.refl _)⟩
theorem write_any {B:Nat} {w0:World} {b:Nat} {m:List UInt8} {r p:Sl UInt8} (h:(star (hashRs b m r)).ok w0) (hr:r.l=restS m) (hm:m.length≤1000000) (hpa:SlAt B w0 u8L 1 p) (hpn:p.l.length≤1000000)
  (hn:p.l≠ []→∀k o,p.A=some ⟨k,o,none⟩→¬(star (hashRs b m r)).dom k):Calls Tryz.prog 270 #[ptr b,p.v] w0 fun e w'=>∃r':Sl UInt8,r'.l=restS (m++p.l)∧e= .returned (i64 p.l.length)∧Mut (star (hashRs b m r)) (star (hashRs b (m++p.l) r')) w0 w':=by
 have hp:=Hp.open h
 have u1:=Tryz.underlying38
 have hrl:r.l.length=m.length % 64:=by rw [hr,restS_len]
 refine calls_x (args:= [_,_]) tabOk Tryz.func270 Tryz.ntmps270 Tryz.results270 rfl (Nat.le_of_ble_eq_true rfl) ?_
 ((conv=>whnf);repeat' ((first|((with_reducible refine br_id ?_);(with_reducible refine br_f ?_))|((with_reducible refine ar_id ?_);(refine ar_u64 (by omega) ?_))|((with_reducible refine cn_id ?_);(refine cn rfl ?_))|((with_reducible refine ld_id ?_);(apply ld_hs hp;(focus repeat' constructor);exact rfl))|((with_reducible refine st_id ?_);(apply st_hs hp;(focus repeat' constructor);exact rfl;exact rfl;clear hp;intro w hp;(try dsimp only [List.set] at hp)))|((with_reducible refine gen_id ?_);first|((refine gen_app0 rfl hp el_u8 rfl (r) rfl ((hp.row (j:=1) rfl)) (fun _ _=>rfl) u8_one (by (try simp only [List.length_append,List.length_cons,List.length_nil,List.length_map,List.length_replicate,maxLen]);omega) (by (try simp only [List.length_append,List.length_cons,List.length_nil,List.length_map,List.length_replicate,maxLen]);omega) ?_);clear hp;intro A2 c2 w hcc hp)|((refine gen_app (s:=⟨A2,c2,r.l⟩) rfl hp 0 rfl el_u8 rfl (p) rfl ((hpa.keepS hp.chg hn)) (fun _ _=>rfl) u8_one (by (try simp only [List.length_append,List.length_cons,List.length_nil,List.length_map,List.length_replicate,maxLen]);omega) (by (try simp only [List.length_append,List.length_cons,List.length_nil,List.length_map,List.length_replicate,maxLen]);omega) ?_);clear hp;intro A2 c2 w hp;dsimp only [List.set] at hp)|(apply gen_len;exact rfl;exact rfl;assumption)))<;>(conv=>whnf)))
 obtain ⟨R,hR⟩:∃R:Sl UInt8,R=⟨A2,c2,r.l++p.l⟩:=⟨_,rfl⟩
 have hRl:R.l=restS m++p.l:=by rw [hR,←hr]
 have hp:Hp (star (hashRs b m r)).dom w0 w [rowR 5 1 u8L R,cel b 360 (shaC (doneS m) r (m.length+p.l.length)).toArray,rowR 5 1 u8L r]:=hR▸hp
 refine lp_inv (α:=Nat×Sl UInt8) (fun a=> [(0,ptr b),(1,p.v),(5,a.2.v)]) (fun a w=>64*a.1≤R.l.length∧Part R a.2 1 (64*a.1)∧Hp (star (hashRs b m r)).dom w0 w [rowR 5 1 u8L R,cel b 360 (shaC (piecesS (doneS m) R.l a.1) r (m.length+p.l.length)).toArray,rowR 5 1 u8L r]) (fun a=>R.l.length - 64*a.1) (0,R) (by rw [hR];(repeat' (first|exact trivial|(refine ⟨rfl,?_⟩)))) ⟨by omega,Part.start (hp.row (j:=0) rfl),hp⟩ ?_
 clear hp
 rintro ⟨i,s⟩ e0 w ⟨hi,hsub,hp⟩
 dsimp only at hi hsub hp ⊢
 have hsl:s.l.length=R.l.length - 64*i:=by rw [hsub.l,List.length_drop]
 have hRlen:R.l.length≤1000063:=by rw [hRl,List.length_append,restS_len];omega
 have hsR:=hsub.slat (hp.row (j:=0) rfl)
 rcases Nat.lt_or_ge s.l.length 64 with hlt|hge
 ·have hi2:i=R.l.length / 64:=by omega
  ((conv=>whnf);repeat' ((first|((with_reducible refine br_id ?_);((with_reducible refine br_dec (fun hx=>?_) (fun hx=>?_))<;>(try (exfalso;first|omega|exact absurd hx ‹_› |exact absurd ‹_› hx))))|((with_reducible refine cn_id ?_);(refine cn rfl ?_))|((with_reducible refine st_id ?_);(apply st_hs hp;(focus repeat' constructor);exact rfl;exact rfl;clear hp;intro w hp;(try dsimp only [List.set] at hp)))|((with_reducible refine gen_id ?_);first|((refine gen_app0 rfl hp el_u8 rfl (s) rfl (hsR) (fun _ _=>rfl) u8_one (by (try simp only [List.length_append,List.length_cons,List.length_nil,List.length_map,List.length_replicate,maxLen]);omega) (by (try simp only [List.length_append,List.length_cons,List.length_nil,List.length_map,List.length_replicate,maxLen]);omega) ?_);clear hp;intro A2 c2 w hcc hp)|(apply gen_len;exact rfl;exact rfl;assumption)))<;>(conv=>whnf)))
  have e1:=done_app m p.l
  rw [←hRl,←hi2] at e1
  have hC:(shaC (piecesS (doneS m) R.l i) ⟨A2,c2,s.l⟩ (m.length+p.l.length))=hashC (m++p.l) ⟨A2,c2,s.l⟩:=by
   unfold hashC
   rw [e1.1,List.length_append]
  have hp:Hp (star (hashRs b m r)).dom w0 w [rowR 5 1 u8L ⟨A2,c2,s.l⟩,rowR 5 1 u8L R,cel b 360 (hashC (m++p.l) ⟨A2,c2,s.l⟩).toArray,rowR 5 1 u8L r]:=hC▸hp
  exact ps_val (v':=i64 p.l.length) rfl ⟨⟨A2,c2,s.l⟩,by show s.l=_;rw [hsub.l,e1.2],rfl,((hp.sub (List.Sublist.cons_cons _ (List.Sublist.cons _ (List.Sublist.cons_cons _ (List.nil_sublist _))))).perm (.swap ..)).shut (.refl _)⟩
 ·((conv=>whnf);repeat' ((first|((with_reducible refine br_id ?_);((with_reducible refine br_dec (fun hx=>?_) (fun hx=>?_))<;>(try (exfalso;first|omega|exact absurd hx ‹_› |exact absurd ‹_› hx))))|((with_reducible refine cn_id ?_);(refine cn rfl ?_))|((with_reducible refine ldn_id ?_);(apply ldn_hs hp;(focus repeat' constructor);exact rfl;exact rfl))|((with_reducible refine st_id ?_);(apply st_hs hp;(focus repeat' constructor);exact rfl;exact rfl;clear hp;intro w hp;(try dsimp only [List.set] at hp)))|((with_reducible refine gen_id ?_);first|((refine gen_cutl (l:=64) rfl el_u8 s rfl (hsub.slat (hp.row (j:=0) rfl)) rfl rfl (by omega) ?_))|(apply gen_len;exact rfl;exact rfl;assumption))|((with_reducible refine dr_id ?_);(refine dr_auto tabOk (by kernel_rfl) (by decide+kernel) ?_;(try replace hp:=hp.drew)))|((with_reducible refine cl_id ?_);((refine cl_eq ((take_any (p:=s.cut 1 0 64) ((hsub.slat (hp.row (j:=0) rfl)).cut (by omega) (by omega)) (piecesS (doneS m) R.l i) (by rw [Sl.cut_len (by omega)]))) rfl rfl ?_;rintro e w ⟨rfl,hcc⟩;replace hp:=hp.call0 hcc;refine ⟨_,rfl,?_⟩)))|((with_reducible refine rd_id ?_);((refine rd_cuth rfl el_u8 s rfl hsR.le (h:=64) rfl rfl (by omega) ?_))))<;>(conv=>whnf)))
  refine lp_next (i+1,s.cut 1 64 s.l.length) ?_ (by (repeat' (first|exact trivial|(refine ⟨rfl,?_⟩)))) ⟨by show 64*(i+1)≤_;omega,by have:=hsub.cut hsR.le (k:=64) (by omega);rwa [show 64*i+64=64*(i+1) by omega] at this,?_⟩
  ·show R.l.length - 64*(i+1) < R.l.length - 64*i;omega
  ·have e2:piecesS (doneS m) R.l (i+1)=takeS (piecesS (doneS m) R.l i) (s.cut 1 0 64).l:=by
    show takeS _ _=takeS _ ((s.l.take 64).drop 0)
    rw [List.drop_zero,hsub.l]
   show Hp _ w0 w [_,cel b _ (shaC (piecesS (doneS m) R.l (i+1)) r (m.length+p.l.length)).toArray,_]
   rw [e2]
   exact hp
end Go.Proofs.YteabebmlclgakaaGreat
