/- Word: words of 32 bits, in the program and in the document's answer. No condition. -/
import Derived.Test.YteabebmlclgakaaGreatMAuditTells6
import Derived.Test.YteabebmlclgakaaGreatMAuditTells13
import Derived.Test.YteabebmlclgakaaGreatMAuditTells8
set_option linter.unusedSimpArgs false
set_option linter.unusedVariables false
namespace Go.Proofs.YteabebmlclgakaaGreat
open Go.RowKit
set_option maxRecDepth 100000
set_option maxHeartbeats 2000000
theorem el_u4:ElT Tryz.prog 199 24 1 4:=elt_of (z:= .int .u32 0) Tryz.underlying199 (by kernel_rfl) rfl (by omega)
theorem u4_one {l:List UInt32}:∀x∈l,∀u∈u4L x,u.oneCell'=true:=fun x _ u hu=>by
 simp only [u4L,List.mem_singleton] at hu
 subst hu
 rfl
theorem rest_any {w0:World} (n:Nat) (hn:0 < n∧n < 32):Calls Tryz.prog 293 #[i64 n] w0 fun e w'=>e= .returned (.int .u64 n)∧Chg N0 w0 w':=by
 have hp:=Hp.start (S:=N0) w0
 have h1:Int.tmod (n:Int) 32=n:=by rw [Int.tmod_eq_emod_of_nonneg (by omega)];omega
 have h2:Int.tmod ((n:Int)+32) 32=n:=by rw [Int.tmod_eq_emod_of_nonneg (by omega)];omega
 refine calls_x (args:= [_]) tabOk Tryz.func293 Tryz.ntmps293 Tryz.results293 rfl (Nat.le_of_ble_eq_true rfl) ?_
 ((conv=>whnf);repeat' ((first|((with_reducible refine ar_id ?_);first|((refine ar_is ((n:Int)+32) (by rw [h1];exact IntWalk.i64_in _ (by omega)) ?_))|((refine ar_is (n:Int) (by rw [h2];exact IntWalk.u64_in _ (by omega)) ?_)))|((with_reducible refine cn_id ?_);(refine cn (by omega) ?_)))<;>(conv=>whnf)))
 exact ps_val (v':= .int .u64 n) rfl ⟨rfl,hp.chg⟩
theorem right_any {w0:World} (x:UInt32) (n:Nat) (hn:0 < n∧n < 32):Calls Tryz.prog 289 #[u4 x,i64 n] w0 fun e w'=>e= .returned (u4 (rot x n))∧Chg N0 w0 w':=by
 have hp:=Hp.start (S:=N0) w0
 refine calls_x (args:= [_,_]) tabOk Tryz.func289 Tryz.ntmps289 Tryz.results289 rfl (Nat.le_of_ble_eq_true rfl) ?_
 ((conv=>whnf);repeat' ((first|((with_reducible refine br_id ?_);first|(with_reducible refine br_t ?_)|(with_reducible refine br_f ?_)|(with_reducible refine br_not ?_)|((with_reducible refine br_dec (fun hx=>?_) (fun hx=>?_))<;>(try (exfalso;first|omega|exact absurd hx ‹_› |exact absurd ‹_› hx)))|((with_reducible refine br_eq (fun hx=>?_) (fun hx=>?_))<;>(try (exfalso;first|omega|exact absurd hx ‹_› |exact absurd ‹_› hx)))|((with_reducible refine br_ne (fun hx=>?_) (fun hx=>?_))<;>(try (exfalso;first|omega|exact absurd hx ‹_› |exact absurd ‹_› hx)))|((with_reducible refine br_s (fun hx=>?_) (fun hx=>?_))<;>(try (exfalso;first|omega|exact absurd hx ‹_› |exact absurd ‹_› hx))))|((with_reducible refine ar_id ?_);first|(refine ar_i64 (by omega) ?_)|(refine ar_u32 (by omega) ?_)|(refine ar_u64 (by omega) ?_)|(refine ar_u8 (by omega) ?_))|((with_reducible refine cn_id ?_);first|(refine cn rfl ?_)|(refine cn ‹_› ?_)|(refine cn (by omega) ?_)|(refine cn (Chg.refl _ _) ?_))|((with_reducible refine ld_id ?_);first|(apply ld_hs hp;(focus repeat' constructor);exact rfl)|(refine ld_of ‹_› ?_))|((with_reducible refine ldn_id ?_);first|(apply lda_hs hp;(focus repeat' constructor);exact rfl)|(apply ldn_hs hp;(focus repeat' constructor);exact rfl;exact rfl))|((with_reducible refine al_id ?_);(refine al_cel hp ?_;clear hp;intro bb w hp))|((with_reducible refine st_id ?_);first|(apply sta_hs hp;(focus repeat' constructor);exact rfl;exact rfl;clear hp;intro w hp;(try dsimp only [List.set] at hp))|(apply st_hs hp;(focus repeat' constructor);exact rfl;exact rfl;clear hp;intro w hp;(try dsimp only [List.set] at hp)))|((with_reducible refine gen_id ?_);first|(apply gen_build;exact rfl;exact rfl)|(apply gen_len;exact rfl;exact rfl;assumption)|(apply gen_min;exact rfl;exact rfl;exact rfl)|(apply gen_max;exact rfl;exact rfl;exact rfl)|(apply gen_ix;exact rfl;exact rfl;exact rfl;exact rfl;omega)|(apply gen_ixa;exact rfl;exact rfl;exact rfl;exact rfl;omega))|((with_reducible refine dr_id ?_);first|(refine dr_auto tabOk (by kernel_rfl) (by decide+kernel) ?_;(try replace hp:=hp.drew))|(refine dr_autog tabOk (by kernel_rfl) (by decide+kernel) ?_;(try replace hp:=hp.drew))|(refine dr_autot tabOk (by kernel_rfl) (by decide+kernel) ?_;(try replace hp:=hp.drew)))|((with_reducible refine fk_id ?_);(refine fk_mk ?_ ?_))|((with_reducible refine rd_id ?_);first|(apply rd_len;exact rfl;exact rfl;assumption)|(apply rd_ix;exact rfl;exact rfl;exact rfl;exact rfl;omega)))<;>(conv=>whnf)))
 refine cl_of (rest_any n hn) ?_;rintro e w ⟨rfl,hc⟩;replace hp:=hp.call0 hc;clear hc;refine ⟨_,rfl,?_⟩;((conv=>whnf);repeat' ((first|((with_reducible refine br_id ?_);first|(with_reducible refine br_t ?_)|(with_reducible refine br_f ?_)|(with_reducible refine br_not ?_)|((with_reducible refine br_dec (fun hx=>?_) (fun hx=>?_))<;>(try (exfalso;first|omega|exact absurd hx ‹_› |exact absurd ‹_› hx)))|((with_reducible refine br_eq (fun hx=>?_) (fun hx=>?_))<;>(try (exfalso;first|omega|exact absurd hx ‹_› |exact absurd ‹_› hx)))|((with_reducible refine br_ne (fun hx=>?_) (fun hx=>?_))<;>(try (exfalso;first|omega|exact absurd hx ‹_› |exact absurd ‹_› hx)))|((with_reducible refine br_s (fun hx=>?_) (fun hx=>?_))<;>(try (exfalso;first|omega|exact absurd hx ‹_› |exact absurd ‹_› hx))))|((with_reducible refine ar_id ?_);first|(refine ar_i64 (by omega) ?_)|(refine ar_u32 (by omega) ?_)|(refine ar_u64 (by omega) ?_)|(refine ar_u8 (by omega) ?_))|((with_reducible refine cn_id ?_);first|(refine cn rfl ?_)|(refine cn ‹_› ?_)|(refine cn (by omega) ?_)|(refine cn (Chg.refl _ _) ?_))|((with_reducible refine ld_id ?_);first|(apply ld_hs hp;(focus repeat' constructor);exact rfl)|(refine ld_of ‹_› ?_))|((with_reducible refine ldn_id ?_);first|(apply lda_hs hp;(focus repeat' constructor);exact rfl)|(apply ldn_hs hp;(focus repeat' constructor);exact rfl;exact rfl))|((with_reducible refine al_id ?_);(refine al_cel hp ?_;clear hp;intro bb w hp))|((with_reducible refine st_id ?_);first|(apply sta_hs hp;(focus repeat' constructor);exact rfl;exact rfl;clear hp;intro w hp;(try dsimp only [List.set] at hp))|(apply st_hs hp;(focus repeat' constructor);exact rfl;exact rfl;clear hp;intro w hp;(try dsimp only [List.set] at hp)))|((with_reducible refine gen_id ?_);first|(apply gen_build;exact rfl;exact rfl)|(apply gen_len;exact rfl;exact rfl;assumption)|(apply gen_min;exact rfl;exact rfl;exact rfl)|(apply gen_max;exact rfl;exact rfl;exact rfl)|(apply gen_ix;exact rfl;exact rfl;exact rfl;exact rfl;omega)|(apply gen_ixa;exact rfl;exact rfl;exact rfl;exact rfl;omega))|((with_reducible refine dr_id ?_);first|(refine dr_auto tabOk (by kernel_rfl) (by decide+kernel) ?_;(try replace hp:=hp.drew))|(refine dr_autog tabOk (by kernel_rfl) (by decide+kernel) ?_;(try replace hp:=hp.drew))|(refine dr_autot tabOk (by kernel_rfl) (by decide+kernel) ?_;(try replace hp:=hp.drew)))|((with_reducible refine fk_id ?_);(refine fk_mk ?_ ?_))|((with_reducible refine rd_id ?_);first|(apply rd_len;exact rfl;exact rfl;assumption)|(apply rd_ix;exact rfl;exact rfl;exact rfl;exact rfl;omega)))<;>(conv=>whnf)))
 ((conv=>whnf);repeat' ((first|((with_reducible refine ar_id ?_);(refine ar_u64 (by omega) ?_))|((with_reducible refine gen_id ?_);first|((refine gen_shr rfl _ n rfl rfl rfl (by omega) ?_))|((refine gen_shl rfl _ (32 - n) rfl rfl (by omega) (by omega) ?_))|((refine gen_or rfl _ _ rfl rfl ?_))))<;>(conv=>whnf)))
 exact ps_val (v':=u4 (rot x n)) rfl ⟨rfl,hp.chg⟩
theorem choose_any {w0:World} (x y z:UInt32):Calls Tryz.prog 290 #[u4 x,u4 y,u4 z] w0 fun e w'=>e= .returned (u4 (ch x y z))∧Chg N0 w0 w':=by
 have hp:=Hp.start (S:=N0) w0
 refine calls_x (args:= [_,_,_]) tabOk Tryz.func290 Tryz.ntmps290 Tryz.results290 rfl (Nat.le_of_ble_eq_true rfl) ?_
 ((conv=>whnf);repeat' (((with_reducible refine gen_id ?_);first|((refine gen_xor rfl _ _ rfl rfl ?_))|((refine gen_and rfl _ _ rfl rfl ?_)))<;>(conv=>whnf)))
 exact ps_val (v':=u4 (ch x y z)) rfl ⟨rfl,hp.chg⟩
theorem majority_any {w0:World} (x y z:UInt32):Calls Tryz.prog 291 #[u4 x,u4 y,u4 z] w0 fun e w'=>e= .returned (u4 (maj x y z))∧Chg N0 w0 w':=by
 have hp:=Hp.start (S:=N0) w0
 refine calls_x (args:= [_,_,_]) tabOk Tryz.func291 Tryz.ntmps291 Tryz.results291 rfl (Nat.le_of_ble_eq_true rfl) ?_
 ((conv=>whnf);repeat' (((with_reducible refine gen_id ?_);first|((refine gen_and rfl _ _ rfl rfl ?_))|((refine gen_or rfl _ _ rfl rfl ?_)))<;>(conv=>whnf)))
 exact ps_val (v':=u4 (maj x y z)) rfl ⟨rfl,hp.chg⟩
theorem xor_any {w0:World} (x y z:UInt32):Calls Tryz.prog 288 #[u4 x,u4 y,u4 z] w0 fun e w'=>e= .returned (u4 (x3 x y z))∧Chg N0 w0 w':=by
 have hp:=Hp.start (S:=N0) w0
 refine calls_x (args:= [_,_,_]) tabOk Tryz.func288 Tryz.ntmps288 Tryz.results288 rfl (Nat.le_of_ble_eq_true rfl) ?_
 ((conv=>whnf);repeat' (((with_reducible refine gen_id ?_);((refine gen_xor rfl _ _ rfl rfl ?_)))<;>(conv=>whnf)))
 exact ps_val (v':=u4 (x3 x y z)) rfl ⟨rfl,hp.chg⟩
theorem right2_any {w0:World} (x:UInt32) (n:Nat) (hn:0 < n∧n < 32):Calls Tryz.prog 197 #[u4 x,i64 n] w0 fun e w'=>e= .returned (u4 (rot x n))∧Chg N0 w0 w':=by
 have hp:=Hp.start (S:=N0) w0
 refine calls_x (args:= [_,_]) tabOk Tryz.func197 Tryz.ntmps197 Tryz.results197 rfl (Nat.le_of_ble_eq_true rfl) ?_
 ((conv=>whnf);repeat' ((first|((with_reducible refine ar_id ?_);(refine ar_i64 (by omega) ?_))|((with_reducible refine dr_id ?_);(refine dr_auto tabOk (by kernel_rfl) (by decide+kernel) ?_;(try replace hp:=hp.drew)))|((with_reducible refine rd_id ?_);first|((refine rd_shr rfl _ n rfl rfl rfl (by omega) ?_))|((refine rd_shl rfl _ (32 - n) rfl rfl (by omega) (by omega) ?_))|((refine rd_or rfl _ _ rfl rfl ?_))))<;>(conv=>whnf)))
 exact ps_val (v':=u4 (rot x n)) rfl ⟨rfl,hp.chg⟩
def sumW:List UInt32→UInt32→UInt32
 | [],n=>n
 |x::l,n=>sumW l (n+x)
theorem add_any {B:Nat} {w0:World} {s:Sl UInt32} (h:SlAt B w0 u4L 1 s):Calls Tryz.prog 287 #[s.v] w0 fun e w'=>e= .returned (u4 (sumW s.l 0))∧Chg N0 w0 w':=by
 have hp:=Hp.start (S:=N0) w0
 have hB:∀b,N0 b→B≤b:=fun _ hh=>hh.elim
 have hmax:s.l.length≤9223372036854775807:=by have:=h.le;have:=h.max;simp only [maxLen] at this;omega
 have u1:=Tryz.underlying199
 refine calls_x (args:= [_]) tabOk Tryz.func287 Tryz.ntmps287 Tryz.results287 rfl (Nat.le_of_ble_eq_true rfl) ?_
 ((conv=>whnf);repeat' (((with_reducible refine gen_id ?_);(apply gen_len;exact rfl;exact rfl;assumption))<;>(conv=>whnf)))
 refine lp_inv (α:=Nat×UInt32) (fun a=> [(3,u4 a.2),(6,s.v),(7,i64 s.l.length),(8,i64 a.1)]) (fun a w=>a.1≤s.l.length∧sumW (s.l.drop a.1) a.2=sumW s.l 0∧Hp N0 w0 w []) (fun a=>s.l.length - a.1) (0,0) (by (repeat' (first|exact trivial|(refine ⟨rfl,?_⟩)))) ⟨by omega,rfl,hp⟩ ?_
 clear hp
 rintro ⟨i,n⟩ e0 w ⟨hi,hs,hp⟩
 dsimp only at hi hs hp ⊢
 rcases Nat.lt_or_ge i s.l.length with hlt|hge
 ·obtain ⟨bb,o,x,hA,hb,hrow,hxx⟩:=h.has hlt
  have hd:s.l.drop i=x::s.l.drop (i+1):=by
   rw [List.drop_eq_getElem_cons hlt]
   rw [List.getElem?_eq_getElem hlt] at hxx
   rw [Option.some.inj hxx]
  ((conv=>whnf);repeat' ((first|((with_reducible refine br_id ?_);((with_reducible refine br_dec (fun hx=>?_) (fun hx=>?_))<;>(try (exfalso;first|omega|exact absurd hx ‹_› |exact absurd ‹_› hx))))|((with_reducible refine ar_id ?_);first|((refine ar_u4add _ _ ?_))|(refine ar_i64 (by omega) ?_))|((with_reducible refine ld_id ?_);((refine ld_row0 hp hB ‹_› ‹_› _ rfl ‹_› (by rfl) ?_)))|((with_reducible refine gen_id ?_);((refine gen_ixs rfl rfl ‹_› rfl rfl (by omega) ?_))))<;>(conv=>whnf)))
  refine lp_next (i+1,n+x) ?_ (by (repeat' (first|exact trivial|(refine ⟨rfl,?_⟩)))) ⟨by show i+1≤_;omega,?_,hp⟩
  ·show s.l.length - (i+1) < s.l.length - i;omega
  ·show sumW (s.l.drop (i+1)) (n+x)=_
   rw [←hs,hd]
   rfl
 ·((conv=>whnf);repeat' (((with_reducible refine br_id ?_);((with_reducible refine br_dec (fun hx=>?_) (fun hx=>?_))<;>(try (exfalso;first|omega|exact absurd hx ‹_› |exact absurd ‹_› hx))))<;>(conv=>whnf)))
  refine ps_val (v':=u4 (sumW s.l 0)) ?_ ⟨rfl,hp.chg⟩
  rw [←hs,List.drop_of_length_le hge]
  rfl
theorem bytes_any {B:Nat} {w0:World} {s:Sl UInt32} (h:SlAt B w0 u4L 1 s) (hn:s.l.length≤1000000):Calls Tryz.prog 282 #[s.v] w0 fun e w'=>∃r:Sl UInt8,r.l=bytesOf s.l∧e= .returned r.v∧Made (rowR 5 1 u8L r) w0 w':=by
 have hp:=Hp.start (S:=N0) w0
 have hB:∀b,N0 b→B≤b:=fun _ hh=>hh.elim
 have u1:=Tryz.underlying199
 refine calls_x (args:= [_]) tabOk Tryz.func282 Tryz.ntmps282 Tryz.results282 rfl (Nat.le_of_ble_eq_true rfl) ?_
 ((conv=>whnf);repeat' ((first|((with_reducible refine ar_id ?_);(refine ar_i64 (by omega) ?_))|((with_reducible refine gen_id ?_);first|((refine gen_make (c:=4*s.l.length) rfl hp el_u8 u8L rfl rfl rfl (by omega) (by omega) (by simp only [maxLen];omega) ?_);clear hp;intro bb w hp)|(apply gen_len;exact rfl;exact rfl;assumption)))<;>(conv=>whnf)))
 refine lp_inv (α:=Nat×Sl UInt8) (fun a=> [(3,a.2.v),(10,s.v),(11,i64 s.l.length),(12,i64 a.1)]) (fun a w=>a.1≤s.l.length∧a.2.l=bytesOf (s.l.take a.1)∧Hp N0 w0 w [rowR 5 1 u8L a.2]) (fun a=>s.l.length - a.1) (0,⟨some ⟨bb,0,none⟩,4*s.l.length, []⟩) (by (repeat' (first|exact trivial|(refine ⟨rfl,?_⟩)))) ⟨by omega,rfl,hp⟩ ?_
 clear hp
 rintro ⟨i,r⟩ e0 w ⟨hi,hs,hp⟩
 dsimp only at hi hs hp ⊢
 rcases Nat.lt_or_ge i s.l.length with hlt|hge
 ·obtain ⟨bb,o,x,hA,hb,hrow,hxx⟩:=h.has hlt
  have hrl:r.l.length=4*i:=by rw [hs,bytesOf_len,List.length_take];omega
  ((conv=>whnf);repeat' ((first|((with_reducible refine br_id ?_);((with_reducible refine br_dec (fun hx=>?_) (fun hx=>?_))<;>(try (exfalso;first|omega|exact absurd hx ‹_› |exact absurd ‹_› hx))))|((with_reducible refine ar_id ?_);first|((refine ar_byt _ _ ?_))|((refine ar_byt0 _ ?_))|(refine ar_i64 (by omega) ?_))|((with_reducible refine ld_id ?_);((refine ld_row0 hp hB ‹_› ‹_› _ rfl ‹_› (by rfl) ?_)))|((with_reducible refine gen_id ?_);first|((refine gen_ixs rfl rfl ‹_› rfl rfl (by omega) ?_))|((refine gen_shr rfl _ _ rfl rfl (Int.toNat_of_nonneg (by decide)).symm (by decide) ?_))|((refine gen_bs rfl hp el_u8 u8L ([byt x 24,byt x 16,byt x 8,byt x 0]) (([byt x 24,byt x 16,byt x 8,byt x 0]).map u8) rfl rfl rfl (fun _ hh=>rfl) (by omega) ?_);clear hp;intro br w hp)|((refine gen_app (s:=r) rfl hp 1 rfl el_u8 rfl ⟨some ⟨br,0,none⟩,4, [byt x 24,byt x 16,byt x 8,byt x 0]⟩ rfl (hp.row (j:=0) rfl) (fun _ _=>rfl) u8_one (by simp only [List.length_cons,List.length_nil];omega) (by simp only [maxLen,List.length_cons,List.length_nil];omega) ?_);clear hp;intro A2 c2 w hp;dsimp only [List.set] at hp)))<;>(conv=>whnf)))
  refine lp_next (i+1,⟨A2,c2,r.l++ [byt x 24,byt x 16,byt x 8,byt x 0]⟩) ?_ (by (repeat' (first|exact trivial|(refine ⟨rfl,?_⟩)))) ⟨by show i+1≤_;omega,?_,hp.sub (List.sublist_cons_self _ _)⟩
  ·show s.l.length - (i+1) < s.l.length - i;omega
  ·show r.l++ [byt x 24,byt x 16,byt x 8,byt x 0]=bytesOf (s.l.take (i+1))
   rw [hs,List.take_add_one,hxx]
   simp [bytesOf,List.flatMap_append]
 ·((conv=>whnf);repeat' (((with_reducible refine br_id ?_);((with_reducible refine br_dec (fun hx=>?_) (fun hx=>?_))<;>(try (exfalso;first|omega|exact absurd hx ‹_› |exact absurd ‹_› hx))))<;>(conv=>whnf)))
  refine ps_val (v':=r.v) rfl ⟨r,?_,rfl,hp.made1 (j:=0) rfl⟩
  rw [hs,List.take_of_length_le hge]
abbrev wor (a b c d:UInt8):UInt32:=((sl (u84 a) 24||| sl (u84 b) 16)||| sl (u84 c) 8)||| u84 d
theorem words_nil:wordsOf []= []:=rfl
theorem words_any {B:Nat} {w0:World} {s:Sl UInt8} (h:SlAt B w0 u8L 1 s) (hn:s.l.length≤1000000) (h4:s.l.length % 4=0):Calls Tryz.prog 292 #[s.v] w0 fun e w'=>∃r:Sl UInt32,r.l=wordsOf s.l∧e= .returned (.tuple #[r.v, .bool true])∧Made (rowR 24 1 u4L r) w0 w':=by
 have hp:=Hp.start (S:=N0) w0
 have hB:∀b,N0 b→B≤b:=fun _ hh=>hh.elim
 have u1:=Tryz.underlying38
 have e1:Int.tmod (s.l.length:Int) 4=0:=by rw [Int.tmod_eq_emod_of_nonneg (by omega)];omega
 have e2:Int.tdiv (s.l.length:Int) 4=((s.l.length / 4:Nat):Int):=by rw [Int.tdiv_eq_ediv_of_nonneg (by omega)];omega
 refine calls_x (args:= [_]) tabOk Tryz.func292 Tryz.ntmps292 Tryz.results292 rfl (Nat.le_of_ble_eq_true rfl) ?_
 ((conv=>whnf);repeat' ((first|((with_reducible refine br_id ?_);((refine br_0 (by rw [e1];rfl) ?_)))|((with_reducible refine ar_id ?_);((refine ar_is ((s.l.length / 4:Nat):Int) (by rw [e2];exact IntWalk.i64_in _ (by omega)) ?_)))|((with_reducible refine cn_id ?_);(refine cn (by omega) ?_))|((with_reducible refine gen_id ?_);first|((refine gen_make (c:=s.l.length / 4) rfl hp el_u4 u4L rfl rfl rfl rfl (by omega) (by simp only [maxLen];omega) ?_);clear hp;intro bb w hp)|(apply gen_len;exact rfl;exact rfl;assumption)))<;>(conv=>whnf)))
 refine lp_inv (α:=Sl UInt8×Sl UInt32) (fun a=> [(0,a.1.v),(4,a.2.v)]) (fun a w=>SlAt B w0 u8L 1 a.1∧a.1.l.length % 4=0∧a.2.l.length*4+a.1.l.length=s.l.length∧a.2.l++wordsOf a.1.l=wordsOf s.l∧Hp N0 w0 w [rowR 24 1 u4L a.2]) (fun a=>a.1.l.length) (s,⟨some ⟨bb,0,none⟩,s.l.length / 4, []⟩) (by (repeat' (first|exact trivial|(refine ⟨rfl,?_⟩)))) ⟨h,h4,by simp,rfl,hp⟩ ?_
 clear hp
 rintro ⟨t,r⟩ e0 w ⟨ht,ht4,hl,hs,hp⟩
 dsimp only at ht ht4 hl hs hp ⊢
 rcases Nat.eq_zero_or_pos t.l.length with h0|hpos
 ·((conv=>whnf);repeat' ((first|((with_reducible refine br_id ?_);((with_reducible refine br_dec (fun hx=>?_) (fun hx=>?_))<;>(try (exfalso;first|omega|exact absurd hx ‹_› |exact absurd ‹_› hx))))|((with_reducible refine gen_id ?_);(apply gen_len;exact rfl;exact rfl;assumption)))<;>(conv=>whnf)))
  have hn0:t.l= []:=List.eq_nil_of_length_eq_zero h0
  rw [hn0,words_nil,List.append_nil] at hs
  exact ps_val (v':= .tuple #[r.v, .bool true]) rfl ⟨r,hs,rfl,hp.made1 (j:=0) rfl⟩
 ·obtain ⟨bb,o,a,hA,hb,hrow,hxx⟩:=ht.has hpos
  have hx0:t.l[0]? =some (t.l[0]):=List.getElem?_eq_getElem _
  have hx1:t.l[1]? =some (t.l[1]'(by omega)):=List.getElem?_eq_getElem _
  have hx2:t.l[2]? =some (t.l[2]'(by omega)):=List.getElem?_eq_getElem _
  have hx3:t.l[3]? =some (t.l[3]'(by omega)):=List.getElem?_eq_getElem _
  have hw:=wordsOf_drop t.l 0 (by omega)
  clear hxx a
  obtain ⟨a,ha⟩:∃a,t.l[0]=a:=⟨_,rfl⟩
  obtain ⟨b,hb'⟩:∃a,t.l[1]'(by omega)=a:=⟨_,rfl⟩
  obtain ⟨c,hc'⟩:∃a,t.l[2]'(by omega)=a:=⟨_,rfl⟩
  obtain ⟨d,hd'⟩:∃a,t.l[3]'(by omega)=a:=⟨_,rfl⟩
  rw [ha] at hx0
  rw [hb'] at hx1
  rw [hc'] at hx2
  rw [hd'] at hx3
  simp only [Nat.zero_add,ha,hb',hc',hd',List.drop_zero] at hw
  ((conv=>whnf);repeat' ((first|((with_reducible refine br_id ?_);((with_reducible refine br_dec (fun hx=>?_) (fun hx=>?_))<;>(try (exfalso;first|omega|exact absurd hx ‹_› |exact absurd ‹_› hx))))|((with_reducible refine ar_id ?_);((refine ar_u84 _ ?_)))|((with_reducible refine ld_id ?_);((refine ld_row0 hp hB ‹_› ‹_› _ rfl ‹_› (by rfl) ?_)))|((with_reducible refine gen_id ?_);first|((refine gen_bs rfl hp el_u4 u4L [wrd a b c d] [u4 (wor a b c d)] rfl rfl (by rw [show wor a b c d=wrd a b c d from wrd_or a b c d];rfl) (fun _ hh=>rfl) (by omega) ?_);clear hp;intro br w hp)|((refine gen_app (s:=r) rfl hp 1 rfl el_u4 rfl ⟨some ⟨br,0,none⟩,1, [wrd a b c d]⟩ rfl (hp.row (j:=0) rfl) (fun _ _=>rfl) u4_one (by simp only [List.length_cons,List.length_nil];omega) (by simp only [maxLen,List.length_cons,List.length_nil];omega) ?_);clear hp;intro A2 c2 w hp;dsimp only [List.set] at hp)|((refine gen_cutl (l:=4) rfl el_u8 t rfl (ht.keep hp.chg hB) rfl rfl (by omega) ?_))|(apply gen_len;exact rfl;exact rfl;assumption))|((with_reducible refine dr_id ?_);(refine dr_auto tabOk (by kernel_rfl) (by decide+kernel) ?_;(try replace hp:=hp.drew)))|((with_reducible refine rd_id ?_);first|((refine rd_ixs rfl rfl ‹_› rfl rfl (by omega) ?_))|((refine rd_or rfl _ _ rfl rfl ?_))|((refine rd_shl rfl _ _ rfl rfl (Int.toNat_of_nonneg (by decide)).symm (by decide) ?_))|((refine rd_conv tabOk rfl rfl rfl rfl ?_))))<;>(conv=>whnf)))
  refine lp_next (t.cut 1 4 t.l.length,⟨A2,c2,r.l++ [wrd a b c d]⟩) ?_ (by (repeat' (first|exact trivial|(refine ⟨rfl,?_⟩)))) ⟨ht.cut (by omega) (by omega),?_,?_,?_,hp.sub (List.sublist_cons_self _ _)⟩
  ·show (t.cut 1 4 t.l.length).l.length < t.l.length
   rw [Sl.cut_len (Nat.le_refl _)];omega
  ·show (t.cut 1 4 t.l.length).l.length % 4=0
   rw [Sl.cut_len (Nat.le_refl _)];omega
  ·show (r.l++ [wrd a b c d]).length*4+(t.cut 1 4 t.l.length).l.length=s.l.length
   rw [Sl.cut_len (Nat.le_refl _),List.length_append,List.length_singleton];omega
  ·show (r.l++ [wrd a b c d])++wordsOf ((t.l.take t.l.length).drop 4)=wordsOf s.l
   rw [List.take_length,←hs,hw,List.append_assoc]
   rfl
theorem bytes01_any {B:Nat} {w0:World} {s:Sl UInt32} (h:SlAt B w0 u4L 1 s) (hn:s.l.length≤1000000):Calls Tryz.prog 130 #[s.v] w0 fun e w'=>∃r:Sl UInt8,r.l=bytesOf s.l∧e= .returned r.v∧Made (rowR 5 1 u8L r) w0 w':=by
 have hp:=Hp.start (S:=N0) w0
 have hB:∀b,N0 b→B≤b:=fun _ hh=>hh.elim
 have u1:=Tryz.underlying199
 refine calls_x (args:= [_]) tabOk Tryz.func130 Tryz.ntmps130 Tryz.results130 rfl (Nat.le_of_ble_eq_true rfl) ?_
 ((conv=>whnf);repeat' ((first|((with_reducible refine br_id ?_);first|(with_reducible refine br_t ?_)|(with_reducible refine br_f ?_)|(with_reducible refine br_not ?_)|((with_reducible refine br_dec (fun hx=>?_) (fun hx=>?_))<;>(try (exfalso;first|omega|exact absurd hx ‹_› |exact absurd ‹_› hx)))|((with_reducible refine br_eq (fun hx=>?_) (fun hx=>?_))<;>(try (exfalso;first|omega|exact absurd hx ‹_› |exact absurd ‹_› hx)))|((with_reducible refine br_ne (fun hx=>?_) (fun hx=>?_))<;>(try (exfalso;first|omega|exact absurd hx ‹_› |exact absurd ‹_› hx)))|((with_reducible refine br_s (fun hx=>?_) (fun hx=>?_))<;>(try (exfalso;first|omega|exact absurd hx ‹_› |exact absurd ‹_› hx))))|((with_reducible refine ar_id ?_);first|(refine ar_i64 (by omega) ?_)|(refine ar_u32 (by omega) ?_)|(refine ar_u64 (by omega) ?_)|(refine ar_u8 (by omega) ?_))|((with_reducible refine cn_id ?_);first|(refine cn rfl ?_)|(refine cn ‹_› ?_)|(refine cn (by omega) ?_)|(refine cn (Chg.refl _ _) ?_))|((with_reducible refine ld_id ?_);first|(apply ld_hs hp;(focus repeat' constructor);exact rfl)|(refine ld_of ‹_› ?_))|((with_reducible refine ldn_id ?_);first|(apply lda_hs hp;(focus repeat' constructor);exact rfl)|(apply ldn_hs hp;(focus repeat' constructor);exact rfl;exact rfl))|((with_reducible refine al_id ?_);(refine al_cel hp ?_;clear hp;intro bb w hp))|((with_reducible refine st_id ?_);first|(apply sta_hs hp;(focus repeat' constructor);exact rfl;exact rfl;clear hp;intro w hp;(try dsimp only [List.set] at hp))|(apply st_hs hp;(focus repeat' constructor);exact rfl;exact rfl;clear hp;intro w hp;(try dsimp only [List.set] at hp)))|((with_reducible refine gen_id ?_);first|(apply gen_build;exact rfl;exact rfl)|(apply gen_len;exact rfl;exact rfl;assumption)|(apply gen_min;exact rfl;exact rfl;exact rfl)|(apply gen_max;exact rfl;exact rfl;exact rfl)|(apply gen_ix;exact rfl;exact rfl;exact rfl;exact rfl;omega)|(apply gen_ixa;exact rfl;exact rfl;exact rfl;exact rfl;omega))|((with_reducible refine dr_id ?_);first|(refine dr_auto tabOk (by kernel_rfl) (by decide+kernel) ?_;(try replace hp:=hp.drew))|(refine dr_autog tabOk (by kernel_rfl) (by decide+kernel) ?_;(try replace hp:=hp.drew))|(refine dr_autot tabOk (by kernel_rfl) (by decide+kernel) ?_;(try replace hp:=hp.drew)))|((with_reducible refine fk_id ?_);(refine fk_mk ?_ ?_))|((with_reducible refine rd_id ?_);first|(apply rd_len;exact rfl;exact rfl;assumption)|(apply rd_ix;exact rfl;exact rfl;exact rfl;exact rfl;omega)))<;>(conv=>whnf)))
 have hp0:Hp N0 w0 w0 [rowR 5 1 u8L Sl.nil]:=hp.new (Chg.refl _ _) (rowR_ok.2 ⟨World.ownsRow_nil w0 0 _ _,by simp [Sl.nil]⟩) fun b hb=>by have h1:=rowR_dom.1 hb;cases h1
 clear hp
 refine lp_inv (α:=Nat×Sl UInt8) (fun a=> [(0,s.v),(3,a.2.v),(4,i64 a.1)]) (fun a w=>a.1≤s.l.length∧a.2.l=bytesOf (s.l.take a.1)∧Hp N0 w0 w [rowR 5 1 u8L a.2]) (fun a=>s.l.length - a.1) (0,Sl.nil) (by (repeat' (first|exact trivial|(refine ⟨rfl,?_⟩)))) ⟨by omega,rfl,hp0⟩ ?_
 clear hp0
 rintro ⟨i,r⟩ e0 w ⟨hi,hs,hp⟩
 dsimp only at hi hs hp ⊢
 rcases Nat.lt_or_ge i s.l.length with hlt|hge
 ·obtain ⟨bb,o,x,hA,hb,hrow,hxx⟩:=h.has hlt
  have hrl:r.l.length=4*i:=by rw [hs,bytesOf_len,List.length_take];omega
  ((conv=>whnf);repeat' ((first|((with_reducible refine br_id ?_);((with_reducible refine br_dec (fun hx=>?_) (fun hx=>?_))<;>(try (exfalso;first|omega|exact absurd hx ‹_› |exact absurd ‹_› hx))))|((with_reducible refine ar_id ?_);first|((refine ar_u4sr x 24 rfl ?_))|((refine ar_u4sr x 16 rfl ?_))|((refine ar_u4sr x 8 rfl ?_))|((refine ar_byt _ _ ?_))|((refine ar_bytm _ _ ?_))|((refine ar_bytm0 _ ?_))|(refine ar_i64 (by omega) ?_))|((with_reducible refine cn_id ?_);(refine cn (by omega) ?_))|((with_reducible refine ld_id ?_);((refine ld_row0 hp hB ‹_› ‹_› _ rfl ‹_› (by rfl) ?_)))|((with_reducible refine gen_id ?_);first|((refine gen_ixs rfl rfl ‹_› rfl rfl (by omega) ?_))|((refine gen_bs rfl hp el_u8 u8L ([byt x 24,byt x 16,byt x 8,byt x 0]) (([byt x 24,byt x 16,byt x 8,byt x 0]).map u8) rfl rfl rfl (fun _ hh=>rfl) (by omega) ?_);clear hp;intro br w hp)|((refine gen_app (s:=r) rfl hp 1 rfl el_u8 rfl ⟨some ⟨br,0,none⟩,4, [byt x 24,byt x 16,byt x 8,byt x 0]⟩ rfl (hp.row (j:=0) rfl) (fun _ _=>rfl) u8_one (by simp only [List.length_cons,List.length_nil];omega) (by simp only [maxLen,List.length_cons,List.length_nil];omega) ?_);clear hp;intro A2 c2 w hp;dsimp only [List.set] at hp)|(apply gen_len;exact rfl;exact rfl;assumption)))<;>(conv=>whnf)))
  refine lp_next (i+1,⟨A2,c2,r.l++ [byt x 24,byt x 16,byt x 8,byt x 0]⟩) ?_ (by (repeat' (first|exact trivial|(refine ⟨rfl,?_⟩)))) ⟨by show i+1≤_;omega,?_,hp.sub (List.sublist_cons_self _ _)⟩
  ·show s.l.length - (i+1) < s.l.length - i;omega
  ·show r.l++ [byt x 24,byt x 16,byt x 8,byt x 0]=bytesOf (s.l.take (i+1))
   rw [hs,List.take_add_one,hxx]
   simp [bytesOf,List.flatMap_append]
 ·((conv=>whnf);repeat' ((first|((with_reducible refine br_id ?_);((with_reducible refine br_dec (fun hx=>?_) (fun hx=>?_))<;>(try (exfalso;first|omega|exact absurd hx ‹_› |exact absurd ‹_› hx))))|((with_reducible refine gen_id ?_);(apply gen_len;exact rfl;exact rfl;assumption)))<;>(conv=>whnf)))
  refine ps_val (v':=r.v) rfl ⟨r,?_,rfl,hp.made1 (j:=0) rfl⟩
  rw [hs,List.take_of_length_le hge]
def hor (l:List UInt8):Nat→Nat
 |0=>0
 |k+1=>256*hor l k+(l.getD k 0).toNat
theorem hor_lt (l:List UInt8):∀k,hor l k < 256 ^ k
 |0=>by simp [hor]
 |k+1=>by
  have h1:=hor_lt l k
  have h2:=(l.getD k 0).toNat_lt
  rw [hor,Nat.pow_succ]
  omega
theorem hor4 (l:List UInt8):hor l 4=(wrd (l.getD 0 0) (l.getD 1 0) (l.getD 2 0) (l.getD 3 0)).toNat:=by
 rw [wrd_nat]
 simp only [hor]
 omega
theorem words01_any {B:Nat} {w0:World} {s:Sl UInt8} (h:SlAt B w0 u8L 1 s) (hn:s.l.length≤1000000) (h4:s.l.length % 4=0):Calls Tryz.prog 196 #[s.v] w0 fun e w'=>∃r:Sl UInt32,r.l=wordsOf s.l∧e= .returned (.tuple #[r.v, .bool true])∧Made (rowR 24 1 u4L r) w0 w':=by
 have hp:=Hp.start (S:=N0) w0
 have hB:∀b,N0 b→B≤b:=fun _ hh=>hh.elim
 have u1:=Tryz.underlying38
 have e1:Int.tmod (s.l.length:Int) 4=0:=by rw [Int.tmod_eq_emod_of_nonneg (by omega)];omega
 refine calls_x (args:= [_]) tabOk Tryz.func196 Tryz.ntmps196 Tryz.results196 rfl (Nat.le_of_ble_eq_true rfl) ?_
 ((conv=>whnf);repeat' ((first|((with_reducible refine br_id ?_);((refine br_0 (by rw [e1];rfl) ?_)))|((with_reducible refine cn_id ?_);(refine cn (by omega) ?_))|((with_reducible refine gen_id ?_);(apply gen_len;exact rfl;exact rfl;assumption)))<;>(conv=>whnf)))
 have hp0:Hp N0 w0 w0 [rowR 24 1 u4L Sl.nil]:=hp.new (Chg.refl _ _) (rowR_ok.2 ⟨World.ownsRow_nil w0 0 _ _,by simp [Sl.nil]⟩) fun b hb=>by have h1:=rowR_dom.1 hb;cases h1
 clear hp
 refine lp_inv (α:=Nat×Sl UInt32) (fun a=> [(0,s.v),(4,a.2.v),(5,i64 (4*a.1:Nat))]) (fun a w=>4*a.1≤s.l.length∧a.2.l.length=a.1∧a.2.l=wordsOf (s.l.take (4*a.1))∧Hp N0 w0 w [rowR 24 1 u4L a.2]) (fun a=>s.l.length - 4*a.1) (0,Sl.nil) (by (repeat' (first|exact trivial|(refine ⟨rfl,?_⟩)))) ⟨by omega,rfl,rfl,hp0⟩ ?_
 clear hp0
 rintro ⟨i,r⟩ e0 w ⟨hi,hrl,hs,hp⟩
 dsimp only at hi hrl hs hp ⊢
 rcases Nat.lt_or_ge (4*i) s.l.length with hlt|hge
 ·((conv=>whnf);repeat' ((first|((with_reducible refine br_id ?_);((with_reducible refine br_dec (fun hx=>?_) (fun hx=>?_))<;>(try (exfalso;first|omega|exact absurd hx ‹_› |exact absurd ‹_› hx))))|((with_reducible refine gen_id ?_);(apply gen_len;exact rfl;exact rfl;assumption)))<;>(conv=>whnf)))
  refine lp_inv (α:=Nat) (fun k=> [(0,s.v),(4,r.v),(5,i64 (4*i:Nat)),(6, .int .u32 (hor (s.l.drop (4*i)) k)),(7,i64 k)]) (fun k w=>k≤4∧Hp N0 w0 w [rowR 24 1 u4L r]) (fun k=>4 - k) 0 (by (repeat' (first|exact trivial|(refine ⟨rfl,?_⟩)))) ⟨by omega,hp⟩ ?_
  clear hp
  rintro k e0 w ⟨hk,hp⟩
  have hh:=hor_lt (s.l.drop (4*i)) k
  rcases Nat.lt_or_ge k 4 with hk4|hk4
  ·obtain ⟨bb,o,x,hA,hb,hrow,hxx⟩:=h.has (i:=4*i+k) (by omega)
   have hlt2:=x.toNat_lt
   have hy:(s.l.drop (4*i)).getD k 0=x:=by
    rw [List.getD_eq_getElem?_getD,List.getElem?_drop,hxx]
    rfl
   have hb4:hor (s.l.drop (4*i)) k < 16777216:=by
    have:k=0∨k=1∨k=2∨k=3:=by omega
    rcases this with rfl|rfl|rfl|rfl<;>omega
   have h5:hor (s.l.drop (4*i)) (k+1)=256*hor (s.l.drop (4*i)) k+x.toNat:=by rw [hor,hy]
   ((conv=>whnf);repeat' ((first|((with_reducible refine br_id ?_);((with_reducible refine br_dec (fun hx=>?_) (fun hx=>?_))<;>(try (exfalso;first|omega|exact absurd hx ‹_› |exact absurd ‹_› hx))))|((with_reducible refine ar_id ?_);first|(refine ar_i64 (by omega) ?_)|(refine ar_u32 (by omega) ?_))|((with_reducible refine ld_id ?_);((refine ld_row0 hp hB ‹_› ‹_› _ rfl ‹_› (by rfl) ?_)))|((with_reducible refine gen_id ?_);((refine gen_ixs rfl rfl ‹_› rfl rfl (by omega) ?_))))<;>(conv=>whnf)))
   refine lp_next (k+1) (by omega) (by rw [h5];(repeat' (first|exact trivial|(refine ⟨rfl,?_⟩)))) ⟨by omega,hp⟩
  ·have hk':k=4:=by omega
   subst hk'
   have hw:=wordsOf_take s.l i (by omega)
   have h6:hor (s.l.drop (4*i)) 4=(wrd (s.l.getD (4*i) 0) (s.l.getD (4*i+1) 0) (s.l.getD (4*i+2) 0) (s.l.getD (4*i+3) 0)).toNat:=by
    rw [hor4]
    simp [List.getD_eq_getElem?_getD,List.getElem?_drop]
   rw [h6]
   generalize wrd (s.l.getD (4*i) 0) (s.l.getD (4*i+1) 0) (s.l.getD (4*i+2) 0) (s.l.getD (4*i+3) 0)=x at hw
   ((conv=>whnf);repeat' ((first|((with_reducible refine br_id ?_);((with_reducible refine br_dec (fun hx=>?_) (fun hx=>?_))<;>(try (exfalso;first|omega|exact absurd hx ‹_› |exact absurd ‹_› hx))))|((with_reducible refine ar_id ?_);(refine ar_i64 (by omega) ?_))|((with_reducible refine gen_id ?_);first|((refine gen_bs rfl hp el_u4 u4L ([x]) (([x]).map u4) rfl rfl rfl (fun _ hh=>rfl) (by omega) ?_);clear hp;intro br w hp)|((refine gen_app (s:=r) rfl hp 1 rfl el_u4 rfl ⟨some ⟨br,0,none⟩,1, [x]⟩ rfl (hp.row (j:=0) rfl) (fun _ _=>rfl) u4_one (by simp only [List.length_cons,List.length_nil];omega) (by simp only [maxLen,List.length_cons,List.length_nil];omega) ?_);clear hp;intro A2 c2 w hp;dsimp only [List.set] at hp)))<;>(conv=>whnf)))
   refine lp_next (i+1,⟨A2,c2,r.l++ [x]⟩) ?_ (by (repeat' (first|exact trivial|(refine ⟨rfl,?_⟩)))) ⟨by show 4*(i+1)≤_;omega,?_,?_,hp.sub (List.sublist_cons_self _ _)⟩
   ·show s.l.length - 4*(i+1) < s.l.length - 4*i;omega
   ·show (r.l++ [x]).length=i+1
    rw [List.length_append,hrl];rfl
   ·show r.l++ [x]=wordsOf (s.l.take (4*(i+1)))
    rw [hw,hs]
 ·((conv=>whnf);repeat' ((first|((with_reducible refine br_id ?_);((with_reducible refine br_dec (fun hx=>?_) (fun hx=>?_))<;>(try (exfalso;first|omega|exact absurd hx ‹_› |exact absurd ‹_› hx))))|((with_reducible refine gen_id ?_);(apply gen_len;exact rfl;exact rfl;assumption)))<;>(conv=>whnf)))
  refine ps_val (v':= .tuple #[r.v, .bool true]) rfl ⟨r,?_,rfl,hp.made1 (j:=0) rfl⟩
  rw [hs,List.take_of_length_le hge]
end Go.Proofs.YteabebmlclgakaaGreat
