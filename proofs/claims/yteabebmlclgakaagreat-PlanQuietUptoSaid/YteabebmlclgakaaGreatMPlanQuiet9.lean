/- MPlanQuiet9: Word, ShaR, TailU. -/
import Derived.Test.YteabebmlclgakaaGreatMPlanQuiet6
import Derived.Test.YteabebmlclgakaaGreatMPlanQuiet8
set_option linter.unusedSimpArgs false
set_option linter.unusedVariables false
/- Word: words of 32 bits, in the program and in the document's answer. No condition. -/
namespace Go.Proofs.YteabebmlclgakaaGreat
open Go.RowKit
set_option maxRecDepth 100000
set_option maxHeartbeats 2000000
theorem el_u4:ElT Tryz.prog 199 24 1 4:=elt_of (z:= .int .u32 0) Tryz.underlying199 (by kernel_rfl) rfl (by omega)
theorem u4_one {l:List UInt32}:∀x∈l,∀u∈u4L x,u.oneCell'=true:=fun x _ u hu=>by
 simp only [u4L,List.mem_singleton] at hu
 subst hu
 rfl
theorem rest_any {w0:World} (n:Nat) (hn:0 < n∧n < 32):Calls Tryz.prog 293 #[i64 n] w0 fun e w'=>e= .returned (.int .u64 n)∧Chg N0 w0 w':=by
 have hp:=Hp.start (S:=N0) w0
 have h1:Int.tmod (n:Int) 32=n:=by rw [Int.tmod_eq_emod_of_nonneg (by omega)];omega
 have h2:Int.tmod ((n:Int)+32) 32=n:=by rw [Int.tmod_eq_emod_of_nonneg (by omega)];omega
 refine calls_x (args:= [_]) tabOk Tryz.func293 Tryz.ntmps293 Tryz.results293 rfl (Nat.le_of_ble_eq_true rfl) ?_
 ((conv=>whnf);repeat' ((first|((with_reducible refine ar_id ?_);first|((refine ar_is ((n:Int)+32) (by rw [h1];exact IntWalk.i64_in _ (by omega)) ?_))|((refine ar_is (n:Int) (by rw [h2];exact IntWalk.u64_in _ (by omega)) ?_)))|((with_reducible refine cn_id ?_);(refine cn (by omega) ?_)))<;>(conv=>whnf)))
 exact ps_val (v':= .int .u64 n) rfl ⟨rfl,hp.chg⟩
theorem right_any {w0:World} (x:UInt32) (n:Nat) (hn:0 < n∧n < 32):Calls Tryz.prog 289 #[u4 x,i64 n] w0 fun e w'=>e= .returned (u4 (rot x n))∧Chg N0 w0 w':=by
 have hp:=Hp.start (S:=N0) w0
 refine calls_x (args:= [_,_]) tabOk Tryz.func289 Tryz.ntmps289 Tryz.results289 rfl (Nat.le_of_ble_eq_true rfl) ?_
 ((conv=>whnf);repeat' ((first|((with_reducible refine br_id ?_);first|(with_reducible refine br_t ?_)|(with_reducible refine br_f ?_)|(with_reducible refine br_not ?_)|((with_reducible refine br_dec (fun hx=>?_) (fun hx=>?_))<;>(try (exfalso;first|omega|exact absurd hx ‹_› |exact absurd ‹_› hx)))|((with_reducible refine br_eq (fun hx=>?_) (fun hx=>?_))<;>(try (exfalso;first|omega|exact absurd hx ‹_› |exact absurd ‹_› hx)))|((with_reducible refine br_ne (fun hx=>?_) (fun hx=>?_))<;>(try (exfalso;first|omega|exact absurd hx ‹_› |exact absurd ‹_› hx)))|((with_reducible refine br_s (fun hx=>?_) (fun hx=>?_))<;>(try (exfalso;first|omega|exact absurd hx ‹_› |exact absurd ‹_› hx))))|((with_reducible refine ar_id ?_);first|(refine ar_i64 (by omega) ?_)|(refine ar_u32 (by omega) ?_)|(refine ar_u64 (by omega) ?_)|(refine ar_u8 (by omega) ?_))|((with_reducible refine cn_id ?_);first|(refine cn rfl ?_)|(refine cn ‹_› ?_)|(refine cn (by omega) ?_)|(refine cn (Chg.refl _ _) ?_))|((with_reducible refine ld_id ?_);first|(apply ld_hs hp;(focus repeat' constructor);exact rfl)|(refine ld_of ‹_› ?_))|((with_reducible refine ldn_id ?_);first|(apply lda_hs hp;(focus repeat' constructor);exact rfl)|(apply ldn_hs hp;(focus repeat' constructor);exact rfl;exact rfl))|((with_reducible refine al_id ?_);(refine al_cel hp ?_;clear hp;intro bb w hp))|((with_reducible refine st_id ?_);first|(apply sta_hs hp;(focus repeat' constructor);exact rfl;exact rfl;clear hp;intro w hp;(try dsimp only [List.set] at hp))|(apply st_hs hp;(focus repeat' constructor);exact rfl;exact rfl;clear hp;intro w hp;(try dsimp only [List.set] at hp)))|((with_reducible refine gen_id ?_);first|(apply gen_build;exact rfl;exact rfl)|(apply gen_len;exact rfl;exact rfl;assumption)|(apply gen_min;exact rfl;exact rfl;exact rfl)|(apply gen_max;exact rfl;exact rfl;exact rfl)|(apply gen_ix;exact rfl;exact rfl;exact rfl;exact rfl;omega)|(apply gen_ixa;exact rfl;exact rfl;exact rfl;exact rfl;omega))|((with_reducible refine dr_id ?_);first|(refine dr_auto tabOk (by kernel_rfl) (by decide+kernel) ?_;(try replace hp:=hp.drew))|(refine dr_autog tabOk (by kernel_rfl) (by decide+kernel) ?_;(try replace hp:=hp.drew))|(refine dr_autot tabOk (by kernel_rfl) (by decide+kernel) ?_;(try replace hp:=hp.drew)))|((with_reducible refine fk_id ?_);(refine fk_mk ?_ ?_))|((with_reducible refine rd_id ?_);first|(apply rd_len;exact rfl;exact rfl;assumption)|(apply rd_ix;exact rfl;exact rfl;exact rfl;exact rfl;omega)))<;>(conv=>whnf)))
 refine cl_of (rest_any n hn) ?_;rintro e w ⟨rfl,hc⟩;replace hp:=hp.call0 hc;clear hc;refine ⟨_,rfl,?_⟩;((conv=>whnf);repeat' ((first|((with_reducible refine br_id ?_);first|(with_reducible refine br_t ?_)|(with_reducible refine br_f ?_)|(with_reducible refine br_not ?_)|((with_reducible refine br_dec (fun hx=>?_) (fun hx=>?_))<;>(try (exfalso;first|omega|exact absurd hx ‹_› |exact absurd ‹_› hx)))|((with_reducible refine br_eq (fun hx=>?_) (fun hx=>?_))<;>(try (exfalso;first|omega|exact absurd hx ‹_› |exact absurd ‹_› hx)))|((with_reducible refine br_ne (fun hx=>?_) (fun hx=>?_))<;>(try (exfalso;first|omega|exact absurd hx ‹_› |exact absurd ‹_› hx)))|((with_reducible refine br_s (fun hx=>?_) (fun hx=>?_))<;>(try (exfalso;first|omega|exact absurd hx ‹_› |exact absurd ‹_› hx))))|((with_reducible refine ar_id ?_);first|(refine ar_i64 (by omega) ?_)|(refine ar_u32 (by omega) ?_)|(refine ar_u64 (by omega) ?_)|(refine ar_u8 (by omega) ?_))|((with_reducible refine cn_id ?_);first|(refine cn rfl ?_)|(refine cn ‹_› ?_)|(refine cn (by omega) ?_)|(refine cn (Chg.refl _ _) ?_))|((with_reducible refine ld_id ?_);first|(apply ld_hs hp;(focus repeat' constructor);exact rfl)|(refine ld_of ‹_› ?_))|((with_reducible refine ldn_id ?_);first|(apply lda_hs hp;(focus repeat' constructor);exact rfl)|(apply ldn_hs hp;(focus repeat' constructor);exact rfl;exact rfl))|((with_reducible refine al_id ?_);(refine al_cel hp ?_;clear hp;intro bb w hp))|((with_reducible refine st_id ?_);first|(apply sta_hs hp;(focus repeat' constructor);exact rfl;exact rfl;clear hp;intro w hp;(try dsimp only [List.set] at hp))|(apply st_hs hp;(focus repeat' constructor);exact rfl;exact rfl;clear hp;intro w hp;(try dsimp only [List.set] at hp)))|((with_reducible refine gen_id ?_);first|(apply gen_build;exact rfl;exact rfl)|(apply gen_len;exact rfl;exact rfl;assumption)|(apply gen_min;exact rfl;exact rfl;exact rfl)|(apply gen_max;exact rfl;exact rfl;exact rfl)|(apply gen_ix;exact rfl;exact rfl;exact rfl;exact rfl;omega)|(apply gen_ixa;exact rfl;exact rfl;exact rfl;exact rfl;omega))|((with_reducible refine dr_id ?_);first|(refine dr_auto tabOk (by kernel_rfl) (by decide+kernel) ?_;(try replace hp:=hp.drew))|(refine dr_autog tabOk (by kernel_rfl) (by decide+kernel) ?_;(try replace hp:=hp.drew))|(refine dr_autot tabOk (by kernel_rfl) (by decide+kernel) ?_;(try replace hp:=hp.drew)))|((with_reducible refine fk_id ?_);(refine fk_mk ?_ ?_))|((with_reducible refine rd_id ?_);first|(apply rd_len;exact rfl;exact rfl;assumption)|(apply rd_ix;exact rfl;exact rfl;exact rfl;exact rfl;omega)))<;>(conv=>whnf)))
 ((conv=>whnf);repeat' ((first|((with_reducible refine ar_id ?_);(refine ar_u64 (by omega) ?_))|((with_reducible refine gen_id ?_);first|((refine gen_shr rfl _ n rfl rfl rfl (by omega) ?_))|((refine gen_shl rfl _ (32 - n) rfl rfl (by omega) (by omega) ?_))|((refine gen_or rfl _ _ rfl rfl ?_))))<;>(conv=>whnf)))
 exact ps_val (v':=u4 (rot x n)) rfl ⟨rfl,hp.chg⟩
theorem choose_any {w0:World} (x y z:UInt32):Calls Tryz.prog 290 #[u4 x,u4 y,u4 z] w0 fun e w'=>e= .returned (u4 (ch x y z))∧Chg N0 w0 w':=by
 have hp:=Hp.start (S:=N0) w0
 refine calls_x (args:= [_,_,_]) tabOk Tryz.func290 Tryz.ntmps290 Tryz.results290 rfl (Nat.le_of_ble_eq_true rfl) ?_
 ((conv=>whnf);repeat' (((with_reducible refine gen_id ?_);first|((refine gen_xor rfl _ _ rfl rfl ?_))|((refine gen_and rfl _ _ rfl rfl ?_)))<;>(conv=>whnf)))
 exact ps_val (v':=u4 (ch x y z)) rfl ⟨rfl,hp.chg⟩
theorem majority_any {w0:World} (x y z:UInt32):Calls Tryz.prog 291 #[u4 x,u4 y,u4 z] w0 fun e w'=>e= .returned (u4 (maj x y z))∧Chg N0 w0 w':=by
 have hp:=Hp.start (S:=N0) w0
 refine calls_x (args:= [_,_,_]) tabOk Tryz.func291 Tryz.ntmps291 Tryz.results291 rfl (Nat.le_of_ble_eq_true rfl) ?_
 ((conv=>whnf);repeat' (((with_reducible refine gen_id ?_);first|((refine gen_and rfl _ _ rfl rfl ?_))|((refine gen_or rfl _ _ rfl rfl ?_)))<;>(conv=>whnf)))
 exact ps_val (v':=u4 (maj x y z)) rfl ⟨rfl,hp.chg⟩
theorem xor_any {w0:World} (x y z:UInt32):Calls Tryz.prog 288 #[u4 x,u4 y,u4 z] w0 fun e w'=>e= .returned (u4 (x3 x y z))∧Chg N0 w0 w':=by
 have hp:=Hp.start (S:=N0) w0
 refine calls_x (args:= [_,_,_]) tabOk Tryz.func288 Tryz.ntmps288 Tryz.results288 rfl (Nat.le_of_ble_eq_true rfl) ?_
 ((conv=>whnf);repeat' (((with_reducible refine gen_id ?_);((refine gen_xor rfl _ _ rfl rfl ?_)))<;>(conv=>whnf)))
 exact ps_val (v':=u4 (x3 x y z)) rfl ⟨rfl,hp.chg⟩
def sumW:List UInt32→UInt32→UInt32
 | [],n=>n
 |x::l,n=>sumW l (n+x)
theorem add_any {B:Nat} {w0:World} {s:Sl UInt32} (h:SlAt B w0 u4L 1 s):Calls Tryz.prog 287 #[s.v] w0 fun e w'=>e= .returned (u4 (sumW s.l 0))∧Chg N0 w0 w':=by
 have hp:=Hp.start (S:=N0) w0
 have hB:∀b,N0 b→B≤b:=fun _ hh=>hh.elim
 have hmax:s.l.length≤9223372036854775807:=by have:=h.le;have:=h.max;simp only [maxLen] at this;omega
 have u1:=Tryz.underlying199
 refine calls_x (args:= [_]) tabOk Tryz.func287 Tryz.ntmps287 Tryz.results287 rfl (Nat.le_of_ble_eq_true rfl) ?_
 ((conv=>whnf);repeat' (((with_reducible refine gen_id ?_);(apply gen_len;exact rfl;exact rfl;assumption))<;>(conv=>whnf)))
 refine lp_inv (α:=Nat×UInt32) (fun a=> [(3,u4 a.2),(6,s.v),(7,i64 s.l.length),(8,i64 a.1)]) (fun a w=>a.1≤s.l.length∧sumW (s.l.drop a.1) a.2=sumW s.l 0∧Hp N0 w0 w []) (fun a=>s.l.length - a.1) (0,0) (by (repeat' (first|exact trivial|(refine ⟨rfl,?_⟩)))) ⟨by omega,rfl,hp⟩ ?_
 clear hp
 rintro ⟨i,n⟩ e0 w ⟨hi,hs,hp⟩
 dsimp only at hi hs hp ⊢
 rcases Nat.lt_or_ge i s.l.length with hlt|hge
 ·obtain ⟨bb,o,x,hA,hb,hrow,hxx⟩:=h.has hlt
  have hd:s.l.drop i=x::s.l.drop (i+1):=by
   rw [List.drop_eq_getElem_cons hlt]
   rw [List.getElem?_eq_getElem hlt] at hxx
   rw [Option.some.inj hxx]
  ((conv=>whnf);repeat' ((first|((with_reducible refine br_id ?_);((with_reducible refine br_dec (fun hx=>?_) (fun hx=>?_))<;>(try (exfalso;first|omega|exact absurd hx ‹_› |exact absurd ‹_› hx))))|((with_reducible refine ar_id ?_);first|((refine ar_u4add _ _ ?_))|(refine ar_i64 (by omega) ?_))|((with_reducible refine ld_id ?_);((refine ld_row0 hp hB ‹_› ‹_› _ rfl ‹_› (by rfl) ?_)))|((with_reducible refine gen_id ?_);((refine gen_ixs rfl rfl ‹_› rfl rfl (by omega) ?_))))<;>(conv=>whnf)))
  refine lp_next (i+1,n+x) ?_ (by (repeat' (first|exact trivial|(refine ⟨rfl,?_⟩)))) ⟨by show i+1≤_;omega,?_,hp⟩
  ·show s.l.length - (i+1) < s.l.length - i;omega
  ·show sumW (s.l.drop (i+1)) (n+x)=_
   rw [←hs,hd]
   rfl
 ·((conv=>whnf);repeat' (((with_reducible refine br_id ?_);((with_reducible refine br_dec (fun hx=>?_) (fun hx=>?_))<;>(try (exfalso;first|omega|exact absurd hx ‹_› |exact absurd ‹_› hx))))<;>(conv=>whnf)))
  refine ps_val (v':=u4 (sumW s.l 0)) ?_ ⟨rfl,hp.chg⟩
  rw [←hs,List.drop_of_length_le hge]
  rfl
theorem bytes_any {B:Nat} {w0:World} {s:Sl UInt32} (h:SlAt B w0 u4L 1 s) (hn:s.l.length≤1000000):Calls Tryz.prog 282 #[s.v] w0 fun e w'=>∃r:Sl UInt8,r.l=bytesOf s.l∧e= .returned r.v∧Made (rowR 5 1 u8L r) w0 w':=by
 have hp:=Hp.start (S:=N0) w0
 have hB:∀b,N0 b→B≤b:=fun _ hh=>hh.elim
 have u1:=Tryz.underlying199
 refine calls_x (args:= [_]) tabOk Tryz.func282 Tryz.ntmps282 Tryz.results282 rfl (Nat.le_of_ble_eq_true rfl) ?_
 ((conv=>whnf);repeat' ((first|((with_reducible refine ar_id ?_);(refine ar_i64 (by omega) ?_))|((with_reducible refine gen_id ?_);first|((refine gen_make (c:=4*s.l.length) rfl hp el_u8 u8L rfl rfl rfl (by omega) (by omega) (by simp only [maxLen];omega) ?_);clear hp;intro bb w hp)|(apply gen_len;exact rfl;exact rfl;assumption)))<;>(conv=>whnf)))
 refine lp_inv (α:=Nat×Sl UInt8) (fun a=> [(3,a.2.v),(10,s.v),(11,i64 s.l.length),(12,i64 a.1)]) (fun a w=>a.1≤s.l.length∧a.2.l=bytesOf (s.l.take a.1)∧Hp N0 w0 w [rowR 5 1 u8L a.2]) (fun a=>s.l.length - a.1) (0,⟨some ⟨bb,0,none⟩,4*s.l.length, []⟩) (by (repeat' (first|exact trivial|(refine ⟨rfl,?_⟩)))) ⟨by omega,rfl,hp⟩ ?_
 clear hp
 rintro ⟨i,r⟩ e0 w ⟨hi,hs,hp⟩
 dsimp only at hi hs hp ⊢
 rcases Nat.lt_or_ge i s.l.length with hlt|hge
 ·obtain ⟨bb,o,x,hA,hb,hrow,hxx⟩:=h.has hlt
  have hrl:r.l.length=4*i:=by rw [hs,bytesOf_len,List.length_take];omega
  ((conv=>whnf);repeat' ((first|((with_reducible refine br_id ?_);((with_reducible refine br_dec (fun hx=>?_) (fun hx=>?_))<;>(try (exfalso;first|omega|exact absurd hx ‹_› |exact absurd ‹_› hx))))|((with_reducible refine ar_id ?_);first|((refine ar_byt _ _ ?_))|((refine ar_byt0 _ ?_))|(refine ar_i64 (by omega) ?_))|((with_reducible refine ld_id ?_);((refine ld_row0 hp hB ‹_› ‹_› _ rfl ‹_› (by rfl) ?_)))|((with_reducible refine gen_id ?_);first|((refine gen_ixs rfl rfl ‹_› rfl rfl (by omega) ?_))|((refine gen_shr rfl _ _ rfl rfl (Int.toNat_of_nonneg (by decide)).symm (by decide) ?_))|((refine gen_bs rfl hp el_u8 u8L ([byt x 24,byt x 16,byt x 8,byt x 0]) (([byt x 24,byt x 16,byt x 8,byt x 0]).map u8) rfl rfl rfl (fun _ hh=>rfl) (by omega) ?_);clear hp;intro br w hp)|((refine gen_app (s:=r) rfl hp 1 rfl el_u8 rfl ⟨some ⟨br,0,none⟩,4, [byt x 24,byt x 16,byt x 8,byt x 0]⟩ rfl (hp.row (j:=0) rfl) (fun _ _=>rfl) u8_one (by simp only [List.length_cons,List.length_nil];omega) (by simp only [maxLen,List.length_cons,List.length_nil];omega) ?_);clear hp;intro A2 c2 w hp;dsimp only [List.set] at hp)))<;>(conv=>whnf)))
  refine lp_next (i+1,⟨A2,c2,r.l++ [byt x 24,byt x 16,byt x 8,byt x 0]⟩) ?_ (by (repeat' (first|exact trivial|(refine ⟨rfl,?_⟩)))) ⟨by show i+1≤_;omega,?_,hp.sub (List.sublist_cons_self _ _)⟩
  ·show s.l.length - (i+1) < s.l.length - i;omega
  ·show r.l++ [byt x 24,byt x 16,byt x 8,byt x 0]=bytesOf (s.l.take (i+1))
   rw [hs,List.take_add_one,hxx]
   simp [bytesOf,List.flatMap_append]
 ·((conv=>whnf);repeat' (((with_reducible refine br_id ?_);((with_reducible refine br_dec (fun hx=>?_) (fun hx=>?_))<;>(try (exfalso;first|omega|exact absurd hx ‹_› |exact absurd ‹_› hx))))<;>(conv=>whnf)))
  refine ps_val (v':=r.v) rfl ⟨r,?_,rfl,hp.made1 (j:=0) rfl⟩
  rw [hs,List.take_of_length_le hge]
abbrev wor (a b c d:UInt8):UInt32:=((sl (u84 a) 24||| sl (u84 b) 16)||| sl (u84 c) 8)||| u84 d
theorem words_nil:wordsOf []= []:=rfl
theorem words_any {B:Nat} {w0:World} {s:Sl UInt8} (h:SlAt B w0 u8L 1 s) (hn:s.l.length≤1000000) (h4:s.l.length % 4=0):Calls Tryz.prog 292 #[s.v] w0 fun e w'=>∃r:Sl UInt32,r.l=wordsOf s.l∧e= .returned (.tuple #[r.v, .bool true])∧Made (rowR 24 1 u4L r) w0 w':=by
 have hp:=Hp.start (S:=N0) w0
 have hB:∀b,N0 b→B≤b:=fun _ hh=>hh.elim
 have u1:=Tryz.underlying38
 have e1:Int.tmod (s.l.length:Int) 4=0:=by rw [Int.tmod_eq_emod_of_nonneg (by omega)];omega
 have e2:Int.tdiv (s.l.length:Int) 4=((s.l.length / 4:Nat):Int):=by rw [Int.tdiv_eq_ediv_of_nonneg (by omega)];omega
 refine calls_x (args:= [_]) tabOk Tryz.func292 Tryz.ntmps292 Tryz.results292 rfl (Nat.le_of_ble_eq_true rfl) ?_
 ((conv=>whnf);repeat' ((first|((with_reducible refine br_id ?_);((refine br_0 (by rw [e1];rfl) ?_)))|((with_reducible refine ar_id ?_);((refine ar_is ((s.l.length / 4:Nat):Int) (by rw [e2];exact IntWalk.i64_in _ (by omega)) ?_)))|((with_reducible refine cn_id ?_);(refine cn (by omega) ?_))|((with_reducible refine gen_id ?_);first|((refine gen_make (c:=s.l.length / 4) rfl hp el_u4 u4L rfl rfl rfl rfl (by omega) (by simp only [maxLen];omega) ?_);clear hp;intro bb w hp)|(apply gen_len;exact rfl;exact rfl;assumption)))<;>(conv=>whnf)))
 refine lp_inv (α:=Sl UInt8×Sl UInt32) (fun a=> [(0,a.1.v),(4,a.2.v)]) (fun a w=>SlAt B w0 u8L 1 a.1∧a.1.l.length % 4=0∧a.2.l.length*4+a.1.l.length=s.l.length∧a.2.l++wordsOf a.1.l=wordsOf s.l∧Hp N0 w0 w [rowR 24 1 u4L a.2]) (fun a=>a.1.l.length) (s,⟨some ⟨bb,0,none⟩,s.l.length / 4, []⟩) (by (repeat' (first|exact trivial|(refine ⟨rfl,?_⟩)))) ⟨h,h4,by simp,rfl,hp⟩ ?_
 clear hp
 rintro ⟨t,r⟩ e0 w ⟨ht,ht4,hl,hs,hp⟩
 dsimp only at ht ht4 hl hs hp ⊢
 rcases Nat.eq_zero_or_pos t.l.length with h0|hpos
 ·((conv=>whnf);repeat' ((first|((with_reducible refine br_id ?_);((with_reducible refine br_dec (fun hx=>?_) (fun hx=>?_))<;>(try (exfalso;first|omega|exact absurd hx ‹_› |exact absurd ‹_› hx))))|((with_reducible refine gen_id ?_);(apply gen_len;exact rfl;exact rfl;assumption)))<;>(conv=>whnf)))
  have hn0:t.l= []:=List.eq_nil_of_length_eq_zero h0
  rw [hn0,words_nil,List.append_nil] at hs
  exact ps_val (v':= .tuple #[r.v, .bool true]) rfl ⟨r,hs,rfl,hp.made1 (j:=0) rfl⟩
 ·obtain ⟨bb,o,a,hA,hb,hrow,hxx⟩:=ht.has hpos
  have hx0:t.l[0]? =some (t.l[0]):=List.getElem?_eq_getElem _
  have hx1:t.l[1]? =some (t.l[1]'(by omega)):=List.getElem?_eq_getElem _
  have hx2:t.l[2]? =some (t.l[2]'(by omega)):=List.getElem?_eq_getElem _
  have hx3:t.l[3]? =some (t.l[3]'(by omega)):=List.getElem?_eq_getElem _
  have hw:=wordsOf_drop t.l 0 (by omega)
  clear hxx a
  obtain ⟨a,ha⟩:∃a,t.l[0]=a:=⟨_,rfl⟩
  obtain ⟨b,hb'⟩:∃a,t.l[1]'(by omega)=a:=⟨_,rfl⟩
  obtain ⟨c,hc'⟩:∃a,t.l[2]'(by omega)=a:=⟨_,rfl⟩
  obtain ⟨d,hd'⟩:∃a,t.l[3]'(by omega)=a:=⟨_,rfl⟩
  rw [ha] at hx0
  rw [hb'] at hx1
  rw [hc'] at hx2
  rw [hd'] at hx3
  simp only [Nat.zero_add,ha,hb',hc',hd',List.drop_zero] at hw
  ((conv=>whnf);repeat' ((first|((with_reducible refine br_id ?_);((with_reducible refine br_dec (fun hx=>?_) (fun hx=>?_))<;>(try (exfalso;first|omega|exact absurd hx ‹_› |exact absurd ‹_› hx))))|((with_reducible refine ar_id ?_);((refine ar_u84 _ ?_)))|((with_reducible refine ld_id ?_);((refine ld_row0 hp hB ‹_› ‹_› _ rfl ‹_› (by rfl) ?_)))|((with_reducible refine gen_id ?_);first|((refine gen_bs rfl hp el_u4 u4L [wrd a b c d] [u4 (wor a b c d)] rfl rfl (by rw [show wor a b c d=wrd a b c d from wrd_or a b c d];rfl) (fun _ hh=>rfl) (by omega) ?_);clear hp;intro br w hp)|((refine gen_app (s:=r) rfl hp 1 rfl el_u4 rfl ⟨some ⟨br,0,none⟩,1, [wrd a b c d]⟩ rfl (hp.row (j:=0) rfl) (fun _ _=>rfl) u4_one (by simp only [List.length_cons,List.length_nil];omega) (by simp only [maxLen,List.length_cons,List.length_nil];omega) ?_);clear hp;intro A2 c2 w hp;dsimp only [List.set] at hp)|((refine gen_cutl (l:=4) rfl el_u8 t rfl (ht.keep hp.chg hB) rfl rfl (by omega) ?_))|(apply gen_len;exact rfl;exact rfl;assumption))|((with_reducible refine dr_id ?_);(refine dr_auto tabOk (by kernel_rfl) (by decide+kernel) ?_;(try replace hp:=hp.drew)))|((with_reducible refine rd_id ?_);first|((refine rd_ixs rfl rfl ‹_› rfl rfl (by omega) ?_))|((refine rd_or rfl _ _ rfl rfl ?_))|((refine rd_shl rfl _ _ rfl rfl (Int.toNat_of_nonneg (by decide)).symm (by decide) ?_))|((refine rd_conv tabOk rfl rfl rfl rfl ?_))))<;>(conv=>whnf)))
  refine lp_next (t.cut 1 4 t.l.length,⟨A2,c2,r.l++ [wrd a b c d]⟩) ?_ (by (repeat' (first|exact trivial|(refine ⟨rfl,?_⟩)))) ⟨ht.cut (by omega) (by omega),?_,?_,?_,hp.sub (List.sublist_cons_self _ _)⟩
  ·show (t.cut 1 4 t.l.length).l.length < t.l.length
   rw [Sl.cut_len (Nat.le_refl _)];omega
  ·show (t.cut 1 4 t.l.length).l.length % 4=0
   rw [Sl.cut_len (Nat.le_refl _)];omega
  ·show (r.l++ [wrd a b c d]).length*4+(t.cut 1 4 t.l.length).l.length=s.l.length
   rw [Sl.cut_len (Nat.le_refl _),List.length_append,List.length_singleton];omega
  ·show (r.l++ [wrd a b c d])++wordsOf ((t.l.take t.l.length).drop 4)=wordsOf s.l
   rw [List.take_length,←hs,hw,List.append_assoc]
   rfl
end Go.Proofs.YteabebmlclgakaaGreat
/- ShaR: the document's SHA-256. -/
namespace Go.Proofs.YteabebmlclgakaaGreat
open Go.RowKit
set_option maxRecDepth 100000
set_option maxHeartbeats 2000000
theorem nth_of {l:List UInt32} {i:Nat} {x:UInt32} (h:l[i]? =some x):nth l i=x:=by
 unfold nth
 rw [List.getD_eq_getElem?_getD,h]
 rfl
theorem has_nth {l:List UInt32} {i:Nat} (h:i < l.length):∃x,l[i]? =some x:=⟨_,List.getElem?_eq_getElem h⟩
theorem eight {l:List UInt32} {f:Nat→UInt32} (hl:l.length=8) (h:∀j,j < 8→l[j]? =some (f j)):l= [f 0,f 1,f 2,f 3,f 4,f 5,f 6,f 7]:=by
 apply List.ext_getElem?
 intro i
 rcases Nat.lt_or_ge i 8 with hi|hi
 ·rw [h i hi]
  have:i=0∨i=1∨i=2∨i=3∨i=4∨i=5∨i=6∨i=7:=by omega
  rcases this with rfl|rfl|rfl|rfl|rfl|rfl|rfl|rfl<;>rfl
 ·rw [List.getElem?_eq_none (by omega),List.getElem?_eq_none (by simpa using hi)]
def idOf (l:List UInt8) (h:l.length=32):Id:=⟨l.toArray,by simpa using h⟩
theorem idOf_c (l:List UInt8) (h:l.length=32):arC u8 l=(idOf l h).c.toArray:=by
 rw [←Id.cells]
 simp only [arC,idOf,Vector.toList_mk,List.toArray_inj]
 exact congrArg List.toArray (List.map_congr_left fun _ _=>rfl)
def shaV (b:List UInt8):Id:=idOf (shaL b) (shaL_len b)
end Go.Proofs.YteabebmlclgakaaGreat
/- TailU: a region that draws its order, in which stores into what it has made may come before it has read all. No condition. -/
namespace Go.Proofs.YteabebmlclgakaaGreat
open Go.RowKit
section
variable {P : Program} {ops : Array Oper} {Q : Exit → Act → World → Prop}
theorem He.world {P:Program} {ops:Array Oper} {ws:World} {C:Prop} {T:Act→Prop}:∀{hs:List Nat} {a:Act},He P ops ws (fun a'=>C∧T a') hs a→C
 | [],_,h=>h.1
 |_::_,_,⟨_,_,_,_,hr⟩=>He.world hr
theorem He.move {P:Program} {ops:Array Oper} {w1 w2:World} {K:Act→Prop}:∀{hs:List Nat} {a:Act},(∀j∈hs,∀oj,ops[j]? =some oj→pOp oj.op=true)→He P ops w1 K hs a→He P ops w2 K hs a
 | [],_,_,h=>h
 |j::_,_,hp,⟨o,v,ho,hy,hr⟩=>⟨o,v,ho,hy.imp (fun ⟨h1,h2⟩=>⟨h1,fun w' _=>pOp_run (hp j (by simp) o ho) (h2 w1 (Chg.refl _ _)) w'⟩) id,He.move (fun j' hj'=>hp j' (by simp [hj'])) hr⟩
theorem He.allocU {ws w:World} (hsel:∀(j:Nat) (o:Oper) cs b,ops[j]? =some o→o.op≠ .select cs b) (hP:∀c a w,¬Q (.panic c) a w) {i:Nat} {oi:Oper} (hi:ops[i]? =some oi) (T:Act→World→Prop):∀(hs:List Nat) (a:Act),
  (∀j∈hs,∀oj,ops[j]? =some oj→oj.apart ops oi=true)→He P ops ws (fun a'=>wpOp P ops Q i (fun a1 w1=>a1.defers=a'.defers∧T a1 w1) a' w) hs a→wpOp P ops Q i (fun a1 w1=>a1.defers=a.defers∧He P ops ws (fun a'=>T a' w1) hs a1) a w
 | [],_,_,h=>h
 |j::hs,a,hap,⟨o,v,ho,hy,hr⟩=>by
  have ih:=He.allocU hsel hP hi T hs _ (fun j' hj'=>hap j' (by simp [hj'])) hr
  obtain ⟨h1,h2,h3⟩:=Oper.apart_spec (hap j (by simp) o ho)
  have fin:∀u w1,He P ops ws (fun a'=>T a' w1) hs ((a.put o.dst v).put oi.dst u)→(a.put oi.dst u).defers=a.defers∧He P ops ws (fun a'=>T a' w1) (j::hs) (a.put oi.dst u):=fun u w1 hh=>
   ⟨put_defers _ _ _,o,v,ho,hy.put (fun cs b=>hsel j o cs b ho) h3,by rw [←Act.put_comm a v u h2];exact hh⟩
  unfold wpOp at ih ⊢
  simp only [hi] at ih ⊢
  rw [wanted_put oi a o.dst v h1] at ih
  split at ih
  ·rename_i hw
   rw [if_pos hw]
   rcases ih with ih|⟨hasks,hl⟩
   ·refine .inl ?_
    unfold Oper.wp at ih ⊢
    rw [execOp_put oi (fun cs b=>hsel i oi cs b hi) a o.dst v h1] at ih
    generalize (execOp a.eval oi).run P w=r at ih ⊢
    cases r with
    |ok nx w'=>
     cases nx<;>simp only [Oper.upon] at ih ⊢ <;>first
      |exact fin _ _ ih.2
      |(have h4:=ih.1
        simp at h4
        done)
      |exact Rows.mono ih fun u w'' he=>fin _ _ he.2
      |(refine Calls.mono ih fun e w'' he=>?_
        cases e with
        |returned u=>exact fin _ _ he.2
        |panicked c=>exact (hP _ _ _ he).elim
        |outgrown=>exact he)
    |halt x w'=>
     cases x<;>simp only [Oper.upon] at ih
     exact (hP _ _ _ ih).elim
   ·refine .inr ⟨?_,hl⟩
    unfold Oper.asks at hasks ⊢
    rw [execOp_put oi (fun cs b=>hsel i oi cs b hi) a o.dst v h1] at hasks
    exact hasks
  ·rename_i hw
   rw [if_neg hw]
   exact fin undef w ih.2
def wpU (P:Program) (ops:Array Oper) (Q:Exit→Act→World→Prop) (gf:Nat→Bool) (ws:World):Nat→List Nat→Act→World→Prop
 |0,_,_,_=>False
 |_+1, [],a,w=>Q .normal a w
 |fuel+1,ts,a,w=>∀i∈rdyT ops ts,wpOp P ops Q i (fun a1 w1=>(gf i=true→Chg N0 ws w1∧a1.defers=a.defers)∧wpU P ops Q gf ws fuel (ts.filter fun j=> !Nat.beq j i) a1 w1) a w
theorem mix_anyU {p gf:Nat→Bool} {b:Array Nat} (M:MixT ops p gf b) {ws:World} (hP:∀c a w,¬Q (.panic c) a w):∀(fuel:Nat) (listed:Array Bool) (hs ts:List Nat) (k:Nat) (a:Act) (w:World),
  listed.size=ops.size→hs.length+ts.length≤fuel→hs.Pairwise (· < ·)→ts.Nodup→(∀i,i < ops.size→(listed.getD i true=false↔i∈hs∨i∈ts))→(∀i∈hs,p i=true∧i < ops.size)→(∀i∈ts,p i=false∧i < ops.size)→
  (∀x y,listed.getD x false=true→x < ops.size→(b.getD x 0).testBit y=true→y < ops.size→listed.getD y false=true)→
  (Chg N0 ws w∨∀j∈hs,∀oj,ops[j]? =some oj→pOp oj.op=true)→He P ops ws (fun a'=>wpU P ops Q gf ws k ts a' w) hs a→wpAny P .any ops Q fuel listed a w:=by
 intro fuel
 induction fuel with
 |zero=>
  intro listed hs ts k a w hsz hf _ _ hun _ _ _ _ h
  obtain ⟨h1,h2⟩:hs= []∧ts= []:=by
   constructor<;>exact List.eq_nil_of_length_eq_zero (by omega)
  subst h1 h2
  have h:wpU P ops Q gf ws k [] a w:=h
  refine ⟨?_,by cases k with|zero=>exact h.elim|succ k=>exact h⟩
  rw [List.eq_nil_iff_forall_not_mem]
  intro i hi
  obtain ⟨h0,o,ho,_⟩:=mem_ready.1 hi
  have:=(hun i (Array.getElem?_eq_some_iff.1 ho).1).1 h0
  simp at this
 |succ fuel ih=>
  intro listed hs ts k a w hsz hf hpw hpt hun hhs hts hcl hinv h
  have hlist:∀i,i < ops.size→(listed.getD i true=false)→listed.getD i false=false:=fun i hi h0=>getD_both h0
  refine ⟨fun hr=>?_,fun i hi=>?_⟩
  ·
   have hempty:∀x,x∉hs++ts:=by
    intro x hx
    have key:∀m x,x=m→x∈hs++ts→False:=by
     intro m
     induction m using Nat.strongRecOn with
     |_ m ihm=>
      intro x hxm hx
      have hxl:x < ops.size:=by
       rcases List.mem_append.1 hx with h1|h1
       ·exact (hhs x h1).2
       ·exact (hts x h1).2
      have hxo:ops[x]? =some ops[x]:=Array.getElem?_eq_getElem hxl
      have:x∈Region.ready .any ops listed:=by
       refine mem_ready.2 ⟨(hun x hxl).2 (List.mem_append.1 hx),ops[x],hxo,fun e he hb=>?_⟩
       have hlt:=M.back x _ hxo e he hb
       cases hle:listed.getD e.on false with
       |true=>rfl
       |false=>
        have hel:e.on < ops.size:=by omega
        have hun':listed.getD e.on true=false:=getD_in (by omega) hle
        exact (ihm e.on (by omega) e.on rfl (List.mem_append.2 ((hun e.on hel).1 hun'))).elim
      rw [hr] at this
      cases this
    exact key x x rfl hx
   have h1:hs= []:=List.eq_nil_iff_forall_not_mem.2 fun x hx=>hempty x (List.mem_append.2 (.inl hx))
   have h2:ts= []:=List.eq_nil_iff_forall_not_mem.2 fun x hx=>hempty x (List.mem_append.2 (.inr hx))
   subst h1 h2
   have h:wpU P ops Q gf ws k [] a w:=h
   cases k with
   |zero=>exact h.elim
   |succ k=>exact h
  ·obtain ⟨h0,oi,hoi,hall⟩:=mem_ready.1 hi
   have hil:i < ops.size:=(Array.getElem?_eq_some_iff.1 hoi).1
   have hdep:∀y,(b.getD i 0).testBit y=true→y < ops.size→listed.getD y false=true:=fun y hy hys=>by
    obtain ⟨e,he,hb,h1⟩:=M.dep i oi hoi y hy hys
    have h2:=hall e he hb
    rcases h1 with rfl|h1
    ·exact h2
    ·have:=M.back i oi hoi e he hb
     exact hcl e.on y h2 (by omega) h1 hys
   have hcl':∀x y,(listed.setIfInBounds i true).getD x false=true→x < ops.size→(b.getD x 0).testBit y=true→y < ops.size→(listed.setIfInBounds i true).getD y false=true:=fun x y hx hxs hy hys=>by
    by_cases hxi:i=x
    ·subst hxi;exact getD_set_true (hdep y hy hys)
    ·rw [getD_set_ne false hxi] at hx
     exact getD_set_true (hcl x y hx hxs hy hys)
   have hsz':(listed.setIfInBounds i true).size=ops.size:=by simp [hsz]
   have hset:∀x,x < ops.size→((listed.setIfInBounds i true).getD x true=false↔listed.getD x true=false∧x≠i):=fun x hx=>by
    by_cases hxi:i=x
    ·subst hxi
     have:i < listed.size:=by omega
     simp [this]
    ·rw [getD_set_ne true hxi]
     exact ⟨fun h=>⟨h,fun e=>hxi e.symm⟩,fun h=>h.1⟩
   rcases (hun i hil).1 h0 with hm|hm
   ·
    obtain ⟨pre,post,rfl⟩:=List.append_of_mem hm
    have hpw':=hpw
    rw [List.pairwise_append] at hpw'
    have hlt:∀j∈pre,j < i:=fun j hj=>hpw'.2.2 j hj i (by simp)
    have hap:∀j∈pre,∀oj,ops[j]? =some oj→oj.apart ops oi=true:=fun j hj oj hoj=>by
     rcases M.heads i j oi oj (hhs i hm).1 (hhs j (by simp [hj])).1 (hlt j hj) hoi hoj with ⟨e,he,hb,rfl⟩|h1
     ·have h2:=hall e he hb
      have h3:=(hun e.on (Array.getElem?_eq_some_iff.1 hoj).1).2 (.inl (by simp [hj]))
      rw [getD_both h3] at h2
      cases h2
     ·exact h1
    obtain ⟨v,hy,hr⟩:=He.front M.sel hoi post pre a hap h
    have hinv':Chg N0 ws w∨∀j∈pre++post,∀oj,ops[j]? =some oj→pOp oj.op=true:=hinv.imp id fun h j hj=>h j (by rcases List.mem_append.1 hj with h1|h1<;>simp [h1])
    have hK:wpAny P .any ops Q fuel (listed.setIfInBounds i true) (a.put oi.dst v) w:=by
     have hsub:(pre++post).Sublist (pre++i::post):=List.Sublist.append_left (List.sublist_cons_self _ _) _
     have hni:i∉pre++post++ts:=by
      intro hx
      rcases List.mem_append.1 hx with h1|h1
      ·rcases List.mem_append.1 h1 with h1|h1
       ·have:=hlt i h1;omega
       ·have h2:=hpw'.2.1
        rw [List.pairwise_cons] at h2
        have:=h2.1 i h1
        omega
      ·have h2:=(hhs i hm).1
       rw [(hts i h1).1] at h2
       cases h2
     refine ih _ (pre++post) ts k _ w hsz' (by simp at hf ⊢;omega) (hpw.sublist hsub) hpt (fun x hx=>?_) (fun x hx=>hhs x (by rcases List.mem_append.1 hx with h1|h1<;>simp [h1])) hts hcl' hinv' hr
     rw [hset x hx,hun x hx]
     constructor
     ·rintro ⟨h1|h1,h2⟩
      ·left
       rcases List.mem_append.1 h1 with h3|h3
       ·simp [h3]
       ·rcases List.mem_cons.1 h3 with h4|h4
        ·exact (h2 h4).elim
        ·simp [h4]
      ·exact .inr h1
     ·intro h1
      refine ⟨h1.imp (fun h2=>by rcases List.mem_append.1 h2 with h3|h3<;>simp [h3]) id,fun e=>?_⟩
      subst e
      exact hni (List.mem_append.2 h1)
    unfold wpOp
    simp only [hoi]
    rcases hy with ⟨hw,hv⟩|⟨hw,rfl⟩
    ·rw [if_pos hw]
     refine .inl ?_
     unfold Oper.wp
     have hvw:(execOp a.eval oi).run P w= .ok (.value v) w:=by
      rcases hinv with hc|hpo
      ·exact hv w hc
      ·exact pOp_run (hpo i hm oi hoi) (hv ws (Chg.refl _ _)) w
     rw [hvw]
     exact hK
    ·rw [if_neg (by rw [hw];simp)]
     exact hK
   ·
    obtain ⟨hni,_⟩:=hts i hm
    have hrd:i∈rdyT ops ts:=List.mem_filter.2 ⟨hm,by
     rw [hoi]
     refine List.all_eq_true.2 fun e he=>?_
     cases hb:Region.binds .any e with
     |false=>rfl
     |true=>
      have h1:=hall e (Array.mem_toList_iff.1 he) hb
      have h2:e.on∉ts:=fun hx=>by
       have h3:=(hun e.on (hts _ hx).2).2 (.inr hx)
       rw [getD_both h3] at h1
       cases h1
      simpa using h2⟩
    have hni2:i∉hs:=fun h1=>by
     have h2:=(hhs i h1).1
     rw [hni] at h2
     cases h2
    have hmem:∀x,x∈ts.filter (fun j=> !Nat.beq j i)↔x∈ts∧x≠i:=fun x=>by
     rw [List.mem_filter]
     refine and_congr_right fun _=>?_
     cases hb:Nat.beq x i with
     |true=>simp [Nat.eq_of_beq_eq_true hb]
     |false=>simp [Nat.ne_of_beq_eq_false hb]
    have hlen:(ts.filter fun j=> !Nat.beq j i).length < ts.length:=List.length_filter_lt_length_iff_exists.2 ⟨i,hm,by simp⟩
    have next:∀a1 w1,(Chg N0 ws w1∨∀j∈hs,∀oj,ops[j]? =some oj→pOp oj.op=true)→He P ops ws (fun a'=>wpU P ops Q gf ws (k - 1) (ts.filter fun j=> !Nat.beq j i) a' w1) hs a1→wpAny P .any ops Q fuel (listed.setIfInBounds i true) a1 w1:=fun a1 w1 hv hh=>by
     refine ih _ hs (ts.filter fun j=> !Nat.beq j i) (k - 1) a1 w1 hsz' (by omega) hpw (hpt.filter _) (fun x hx=>?_) hhs (fun x hx=>hts x ((hmem x).1 hx).1) hcl' hv hh
     rw [hset x hx,hun x hx,hmem x]
     constructor
     ·rintro ⟨h1|h1,h2⟩
      ·exact .inl h1
      ·exact .inr ⟨h1,h2⟩
     ·rintro (h1|h1)
      ·exact ⟨.inl h1,fun e=>hni2 (e▸h1)⟩
      ·exact ⟨.inr h1.1,h1.2⟩
    have h1:He P ops ws (fun a'=>wpOp P ops Q i (fun a1 w1=>(gf i=true→Chg N0 ws w1∧a1.defers=a'.defers)∧wpU P ops Q gf ws (k - 1) (ts.filter fun j=> !Nat.beq j i) a1 w1) a' w) hs a:=He.mono (fun a' h2=>by
     cases k with
     |zero=>exact h2.elim
     |succ k=>
      cases ts with
      |nil=>cases hm
      |cons t0 ts0=>exact h2 i hrd) _ _ h
    have hA:∀j∈hs,∀oj,ops[j]? =some oj→(aOp oi.op=true∨pOp oj.op=true∨gf i=true)∧oj.apart ops oi=true:=fun j hj oj hoj=>by
     have hjn:=hhs j hj
     rcases M.tails i j oi oj hni hjn.1 hoi hoj with h1|h1
     ·have hjs:j < ops.size:=hjn.2
      have h2:=hdep j h1 hjs
      have h3:=(hun j hjs).2 (.inl hj)
      rw [getD_both h3] at h2
      cases h2
     ·exact h1
    cases hAi:aOp oi.op with
    |true=>
     have h2:=He.allocU (ws:=ws) M.sel hP hoi (fun a1 w1=>Chg N0 w w1∧wpU P ops Q gf ws (k - 1) (ts.filter fun j=> !Nat.beq j i) a1 w1) hs a (fun j hj oj hoj=>(hA j hj oj hoj).2) (He.mono (fun a' h2=>wpOp_mono (fun a1 w1 (h3:CD a' w a1 w1∧_)=>⟨h3.1.2,h3.1.1,h3.2⟩) (wpOp_aOp hP hoi hAi (wpOp_mono (fun a1 w1 h3=>h3.2) h2))) _ _ h1)
     refine wpOp_mono (fun a1 w1 h3=>?_) h2
     have h4:Chg N0 w w1:=He.world h3.2
     exact next a1 w1 (hinv.imp (fun h5=>h5.trans0 h4) id) (He.mono (fun a' h5=>h5.2) _ _ h3.2)
    |false=>
     cases hGi:gf i with
     |true=>
      have h2:=He.allocU (ws:=ws) M.sel hP hoi (fun a1 w1=>Chg N0 ws w1∧wpU P ops Q gf ws (k - 1) (ts.filter fun j=> !Nat.beq j i) a1 w1) hs a (fun j hj oj hoj=>(hA j hj oj hoj).2) (He.mono (fun a' h2=>wpOp_mono (fun a1 w1 h3=>⟨(h3.1 hGi).2,(h3.1 hGi).1,h3.2⟩) h2) _ _ h1)
      refine wpOp_mono (fun a1 w1 h3=>?_) h2
      exact next a1 w1 (.inl (He.world h3.2)) (He.mono (fun a' h5=>h5.2) _ _ h3.2)
     |false=>
      have hpo:∀j∈hs,∀oj,ops[j]? =some oj→pOp oj.op=true:=fun j hj oj hoj=>((hA j hj oj hoj).1.resolve_left (by rw [hAi];simp)).resolve_right (by rw [hGi];simp)
      have h2:=He.tail M.sel hP hoi (wpU P ops Q gf ws (k - 1) (ts.filter fun j=> !Nat.beq j i)) hs a (fun j hj oj hoj=>⟨hpo j hj oj hoj,(hA j hj oj hoj).2⟩) (He.move hpo (He.mono (fun a' h2=>wpOp_mono (fun a1 w1 h3=>h3.2) h2) _ _ h1))
      exact wpOp_mono (fun a1 w1 h3=>next a1 w1 (.inr hpo) (He.move hpo h3)) h2
end
def gOp2 (o:Op):Bool:=gOp o|| match o with| .store .. =>true|_=>false
def gAt2 (ops:Array Oper) (i:Nat):Bool:=match ops[i]? with|some o=>gOp2 o.op && o.guard.isNone|none=>false
def xuF (T:Tb) (P:Program) (n:Nat) (ops:Array Oper) (gf:Nat→Bool) (ws:World) (K:Env→World→Prop) (ih:List Nat→Env→World→Prop) (ts:List Nat) (e:Env) (w:World):Prop:=
 match ts with
 | []=>K e w
 |t0::r=>conjL (fun i=>match ops[i]? with
  |some o=>bif gf i then xo T P (ev n e) o w fun v w'=>Cn (Chg N0 ws w') (fcv v fun v=>fnl ((t0::r).filter fun j=> !Nat.beq j i) fun ts'=>ih ts' (eup e o.dst v) w')
   else xl0 T P n ops (fun e' w'=>fnl ((t0::r).filter fun j=> !Nat.beq j i) fun ts'=>ih ts' e' w') [o] e w
  |none=>False) (rdyT ops (t0::r))
def xu (T:Tb) (P:Program) (n:Nat) (ops:Array Oper) (gf:Nat→Bool) (ws:World) (K:Env→World→Prop) (fuel:Nat):List Nat→Env→World→Prop:=
 Nat.rec (motive:=fun _=>List Nat→Env→World→Prop) (fun _ _ _=>False) (fun _ ih=>xuF T P n ops gf ws K ih) fuel
theorem xu_sound {P:Program} {T:Tb} (hT:TabOk P T) {n:Nat} {ops:Array Oper} {gf:Nat→Bool} {ws:World} {K:Env→World→Prop} {Q:Exit→Act→World→Prop} (hgf:∀i,gf i=true→gAt2 ops i=true) (hQ:∀e a w,Rel n e a→K e w→Q .normal a w):
  ∀(fuel:Nat) (ts:List Nat) (e:Env) (a:Act) (w:World),Rel n e a→xu T P n ops gf ws K fuel ts e w→wpU P ops Q gf ws fuel ts a w
 |0,_,_,_,_,_,h=>h.elim
 |_+1, [],e,a,w,hr,h=>hQ e a w hr h
 |fuel+1,t0::r,e,a,w,hr,h=>by
  have ih:=fun ts e a w=>xu_sound (ws:=ws) hT hgf hQ fuel ts e a w
  intro i hi
  have h1:=conjL_all (show conjL _ (rdyT ops (t0::r)) from h) i hi
  unfold wpOp
  cases ho:ops[i]? with
  |none=>rw [ho] at h1;exact h1.elim
  |some o=>
   rw [ho] at h1
   simp only at h1 ⊢
   cases hg:gf i with
   |true=>
    rw [hg] at h1
    simp only [cond_true] at h1
    have hgn:o.guard=none:=by
     have:=hgf i hg
     unfold gAt2 at this
     rw [ho] at this
     simp only [Bool.and_eq_true,Option.isNone_iff_eq_none] at this
     exact this.2
    rw [if_pos (by simp [Region.wanted,hgn])]
    exact .inl (gen_wp hr (xo_sound hT h1) fun v w' hx=>⟨fun _=>⟨hx.1,put_defers _ _ _⟩,ih _ _ _ _ (hr.put _ _) (by have h2:=hx.2;rw [fcv_eq,fnl_eq] at h2;exact h2)⟩)
   |false=>
    rw [hg] at h1
    simp only [cond_false] at h1
    exact xl_one hT (fun e1 a1 w1 hr1 hx1=>⟨fun hh=>(by cases hh),ih _ _ _ _ hr1 (by rw [fnl_eq] at hx1;exact hx1)⟩) hr h1
def lastG2 (ops:Array Oper):Nat:=(List.range ops.size).foldl (fun m i=>bif gAt2 ops i then i else m) 0
def gBut2 (ops:Array Oper) (i:Nat):Bool:=gAt2 ops i && !Nat.beq i (lastG2 ops)
theorem gBut2_at {ops:Array Oper} (i:Nat) (h:gBut2 ops i=true):gAt2 ops i=true:=by
 unfold gBut2 at h
 simp only [Bool.and_eq_true] at h
 exact h.1
theorem dr_autou {P:Program} {T:Tb} (hT:TabOk P T) {n:Nat} {id:Nat} {l:List Oper} {K:Exit→Env→World→Prop} {e:Env} {w:World} (hm:P.follows .mixedOrders=true) (hB:mixTB l.toArray (isHead (heads l 0 [])) (gBut2 l.toArray)=true)
  (h:xrs T P n l.toArray w.drew (fun _ e'=>fnl (tlix l) fun ts=>xu T P n l.toArray (gBut2 l.toArray) w.drew (fun e w=>K .normal e w) (l.length+1) ts e' w.drew) l 0 [] [] e):Dr P n (.region id l.toArray true) K e w:=by
 refine dr_of fun rr a hfl hr=>?_
 have M:=mixT_of hB
 generalize hp:isHead (heads l 0 [])=p at M
 refine Code.wpIn_mono (Q:=QX n (fun ex e w=>match ex with| .panic _=>False| .outgrown=>False|ex=>K ex e w)) ?_ ?_
 ·rintro ex a' w' ⟨e',hr',hk⟩
  cases ex<;>first
   |exact ⟨e',hr',hk⟩
   |exact hk.elim
 have hin:∀q:Nat→Bool,∀i∈(List.range l.length).filter q,q i=true∧i < l.length:=fun q i hi=>by
  have:=List.mem_filter.1 hi
  exact ⟨this.2,List.mem_range.1 this.1⟩
 have hlen:∀l:List Nat,(l.filter p).length+(l.filter fun i=> !p i).length=l.length:=fun l=>by
  induction l with
  |nil=>rfl
  |cons x r ih=>cases hx:p x<;>simp [hx]<;>omega
 refine region_in hfl (fun _ _ ⟨_,_,h⟩=>h) hm (mix_anyU M (ws:=w.drew) (fun c a w ⟨e,_,hk⟩=>hk) _ _ ((List.range l.length).filter p) ((List.range l.length).filter fun i=> !p i) (l.length+1) a _ (by simp) (by have:=hlen (List.range l.length);simp at this ⊢;omega)
  (List.pairwise_lt_range.sublist List.filter_sublist) ((List.nodup_range).sublist List.filter_sublist) (fun i hi=>?_) (fun i hi=>by simpa using hin p i hi) (fun i hi=>by simpa using hin (fun i=> !p i) i hi) (fun x y hx=>?_) (.inl (Chg.refl _ _)) ?_)
 ·have hi':i < l.length:=by simpa using hi
  constructor
  ·intro _
   cases hp:p i with
   |true=>exact .inl (List.mem_filter.2 ⟨List.mem_range.2 hi',hp⟩)
   |false=>exact .inr (List.mem_filter.2 ⟨List.mem_range.2 hi',by simp [hp]⟩)
  ·intro _
   simp [hi']
 ·rw [getD_replicate_false] at hx;cases hx
 ·have e1:=hix_at l 0 [] [] rfl
  simp only [List.nil_append,←List.range_eq_range'] at e1
  rw [←hp,e1]
  refine xrs_sound hT (sel false (heads l 0 []) l) (fun e a hr h=>?_) l 0 [] [] e a (fun j hj=>by simp) rfl hr h
  rw [fnl_eq] at h
  exact xu_sound hT (K:=fun e w=>K .normal e w) (fun i hi=>gBut2_at i hi) (fun e a w hr hk=>⟨e,hr,hk⟩) _ _ _ _ _ hr h
theorem cl_id {P:Program} {f:FuncId} {args:Array Value} {w:World} {k:Value→World→Prop} (h:Cl P f args w k):Cl P f args w k:=h
theorem cl_eq {P:Program} {f f':FuncId} {args args':Array Value} {w:World} {R:Ending→World→Prop} {k:Value→World→Prop} (h:Calls P f' args' w R) (ef:f=f') (ea:args=args') (hk:∀e w',R e w'→∃v,e= .returned v∧k v w'):Cl P f args w k:=by
 subst ef ea
 exact cl_of h hk
theorem Hp.join {S:Nat→Prop} {w0 w w':World} {rs rs':List Res} (h:Hp S w0 w rs) (h':Hp N0 w w' rs'):Hp S w0 w' (rs'++rs):=by
 have h0:=h.call0 h'.chg
 refine ⟨h0.chg,fun r hr=>?_,List.pairwise_append.2 ⟨h'.sep,h0.sep,fun r hr r' hr' b hb hb'=>?_⟩,fun r hr b hb=>?_⟩
 ·rcases List.mem_append.1 hr with hr|hr
  ·exact h'.ok r hr
  ·exact h0.ok r hr
 ·have h1:=(h'.own r hr b hb).resolve_left fun hh=>hh
  have h2:=r'.lt w (h.ok r' hr') b hb'
  omega
 ·rcases List.mem_append.1 hr with hr|hr
  ·exact .inr (Nat.le_trans h.chg.size ((h'.own r hr b hb).resolve_left fun hh=>hh))
  ·exact h0.own r hr b hb
theorem perm213 {α:Type} (a b c:α): [b,a,c].Perm [a,b,c]:= .swap ..
theorem perm132 {α:Type} (a b c:α): [a,c,b].Perm [a,b,c]:= .cons _ (.swap ..)
theorem perm231 {α:Type} (a b c:α): [b,c,a].Perm [a,b,c]:= .trans (.cons _ (.swap ..)) (.swap ..)
theorem perm312 {α:Type} (a b c:α): [c,a,b].Perm [a,b,c]:= .trans (.swap ..) (.cons _ (.swap ..))
theorem perm321 {α:Type} (a b c:α): [c,b,a].Perm [a,b,c]:= .trans (.cons _ (.swap ..)) (.trans (.swap ..) (.cons _ (.swap ..)))
theorem dr_cut {P:Program} {n:Nat} {c:Code} {K:Exit→Env→World→Prop} {e:Env} {w:World} (I:Env→World→Prop) (h:Dr P n c (fun ex e w=>match ex with| .normal=>I e w|_=>False) e w) (hk:∀e w,I e w→K .normal e w):Dr P n c K e w:=by
 refine dr_of fun rr a hfl hr=>Code.wpIn_mono ?_ (h.out rr a hfl hr)
 rintro ex a' w' ⟨e',hr',h1⟩
 cases ex<;>first
  |exact ⟨e',hr',hk _ _ h1⟩
  |exact h1.elim
end Go.Proofs.YteabebmlclgakaaGreat
