/- MPlanQuiet16: Stab1, Plan2. -/
import Derived.Test.YteabebmlclgakaaGreatMPlanQuiet15
import Derived.Test.YteabebmlclgakaaGreatMPlanQuiet11
import Derived.Test.YteabebmlclgakaaGreatMPlanQuiet9
import Derived.Test.YteabebmlclgakaaGreatMPlanQuiet13
set_option linter.unusedSimpArgs false
set_option linter.unusedVariables false
/- Stab1: slices.SortStableFunc at plan's steps: parts of a row exchanged, a row turned, sorting by insertion. Of own rows of at most a million. -/
namespace Go.Proofs.YteabebmlclgakaaGreat
open Go.RowKit
set_option maxRecDepth 100000
set_option maxHeartbeats 4000000
theorem stp_one {l:List Stp}:∀x∈l,∀u∈Stp.c x,u.oneCell'=true:=fun x _ u hu=>List.all_eq_true.1 (show (Stp.c x).all Value.oneCell'=true from rfl) u hu
abbrev stS (A:Option Addr) (c:Nat) (l:List Stp):Sl Stp:=⟨A,c,l⟩
abbrev stR (A:Option Addr) (c:Nat) (l:List Stp):Res:=rowR 144 39 Stp.c (stS A c l)
abbrev cmpV:Value:= .func (.func 161) #[] #[]
theorem cmp_ok:CmpOk cmpS:=by
 refine ⟨fun x y h=>?_,fun x y z h1 h2=>?_⟩
 ·unfold cmpS at h ⊢
  split at h
  ·rename_i h1
   rw [if_neg (by omega)]
   split<;>omega
  ·split at h<;>omega
 ·unfold leC cmpS at*
  intro h3
  split at h3
  ·rename_i h4
   have g1:¬(y.sub.height.toNat < x.sub.height.toNat∨y.sub.height.toNat=x.sub.height.toNat∧y.place < x.place):=fun hh=>h1 (by rw [if_pos hh];omega)
   have g2:¬(z.sub.height.toNat < y.sub.height.toNat∨z.sub.height.toNat=y.sub.height.toNat∧z.place < y.place):=fun hh=>h2 (by rw [if_pos hh];omega)
   omega
  ·split at h3<;>omega
theorem Hp.one {w:World} {r:Res} (h:r.ok w):Hp r.dom w w [r]:=⟨Chg.refl _ _,fun x hx=>by rw [List.mem_singleton] at hx;subst hx;exact h,List.pairwise_singleton ..,fun x hx b hb=>by rw [List.mem_singleton] at hx;subst hx;exact .inl hb⟩
section
variable {w0 : World} {g c N a b n m : Nat}
theorem swr_any {P X Q Y S:List Stp} (h:(stR (some ⟨g,0,none⟩) c (P++(X++(Q++(Y++S))))).ok w0) (hX:X.length=n) (hY:Y.length=n) (ha:P.length=a) (hb:P.length+X.length+Q.length=b) (hN:P.length+X.length+Q.length+Y.length+S.length=N) (hn:N≤1000000):Calls Tryz.prog 284 #[.slice (some ⟨g,0,none⟩) N c,i64 a,i64 b,i64 n,cmpV] w0 fun e w'=>e= .returned (.tuple #[])∧Mut (stR (some ⟨g,0,none⟩) c (P++(X++(Q++(Y++S))))) (stR (some ⟨g,0,none⟩) c (P++(Y++(Q++(X++S))))) w0 w':=by
 have hp:=Hp.one h
 have us:=Tryz.underlying141
 refine calls_x (args:= [_,_,_,_,_]) tabOk Tryz.func284 Tryz.ntmps284 Tryz.results284 rfl (Nat.le_of_ble_eq_true rfl) ?_
 ((conv=>whnf);repeat' ((first|((with_reducible refine br_id ?_);first|(with_reducible refine br_t ?_)|(with_reducible refine br_f ?_)|(with_reducible refine br_not ?_)|((with_reducible refine br_dec (fun hx=>?_) (fun hx=>?_))<;>(try (exfalso;first|omega|contradiction)))|((with_reducible refine br_eq (fun hx=>?_) (fun hx=>?_))<;>(try (exfalso;first|omega|contradiction)))|((with_reducible refine br_ne (fun hx=>?_) (fun hx=>?_))<;>(try (exfalso;first|omega|contradiction)))|((with_reducible refine br_s (fun hx=>?_) (fun hx=>?_))<;>(try (exfalso;first|omega|contradiction))))|((with_reducible refine ar_id ?_);first|(refine ar_i64 (by omega) ?_)|(refine ar_u32 (by omega) ?_)|(refine ar_u64 (by omega) ?_)|(refine ar_u8 (by omega) ?_))|((with_reducible refine cn_id ?_);first|(refine cn rfl ?_)|(refine cn ‹_› ?_)|(refine cn (by omega) ?_)|(refine cn (Chg.refl _ _) ?_))|((with_reducible refine ld_id ?_);first|(apply ld_hs hp;(focus repeat' constructor);exact rfl)|(refine ld_of ‹_› ?_))|((with_reducible refine ldn_id ?_);first|(apply lda_hs hp;(focus repeat' constructor);exact rfl)|(apply ldn_hs hp;(focus repeat' constructor);exact rfl;exact rfl))|((with_reducible refine al_id ?_);(refine al_cel hp ?_;clear hp;intro bb w hp))|((with_reducible refine st_id ?_);first|(apply sta_hs hp;(focus repeat' constructor);exact rfl;exact rfl;clear hp;intro w hp;(try dsimp only [List.set] at hp))|(apply st_hs hp;(focus repeat' constructor);exact rfl;exact rfl;clear hp;intro w hp;(try dsimp only [List.set] at hp)))|((with_reducible refine gen_id ?_);first|(apply gen_build;exact rfl;exact rfl)|(apply gen_len;exact rfl;exact rfl;assumption)|(apply gen_min;exact rfl;exact rfl;exact rfl)|(apply gen_max;exact rfl;exact rfl;exact rfl)|(apply gen_ix;exact rfl;exact rfl;exact rfl;exact rfl;omega)|(apply gen_ixa;exact rfl;exact rfl;exact rfl;exact rfl;omega))|((with_reducible refine dr_id ?_);first|(refine dr_auto tabOk (by kernel_rfl) (by decide+kernel) ?_;(try replace hp:=hp.drew))|(refine dr_autog tabOk (by kernel_rfl) (by decide+kernel) ?_;(try replace hp:=hp.drew))|(refine dr_autot tabOk (by kernel_rfl) (by decide+kernel) ?_;(try replace hp:=hp.drew)))|((with_reducible refine fk_id ?_);(refine fk_mk ?_ ?_))|((with_reducible refine rd_id ?_);first|(apply rd_len;exact rfl;exact rfl;assumption)|(apply rd_ix;exact rfl;exact rfl;exact rfl;exact rfl;omega)))<;>(conv=>whnf)))
 refine lp_inv (α:=List Stp×List Stp×List Stp×List Stp) (fun x=> [(0, .slice (some ⟨g,0,none⟩) N c),(1,i64 a),(2,i64 b),(3,i64 n),(10,i64 x.1.length)]) (fun x w=>x.1++x.2.1=X∧x.2.2.1++x.2.2.2=Y∧x.1.length=x.2.2.1.length∧Hp (stR (some ⟨g,0,none⟩) c (P++(X++(Q++(Y++S))))).dom w0 w [stR (some ⟨g,0,none⟩) c (P++(x.2.2.1++(x.2.1++(Q++(x.1++(x.2.2.2++S))))))]) (fun x=>n - x.1.length) ([],X, [],Y) (by (repeat' (first|exact trivial|(refine ⟨rfl,?_⟩)))) ⟨rfl,rfl,rfl,hp⟩ ?_
 clear hp
 rintro ⟨X1,X2,Y1,Y2⟩ e0 w ⟨hX1,hY1,hl,hp⟩
 dsimp only at hX1 hY1 hl hp ⊢
 have hXl:X1.length+X2.length=n:=by rw [←hX,←hX1,List.length_append]
 have hYl:Y1.length+Y2.length=n:=by rw [←hY,←hY1,List.length_append]
 obtain ⟨i,hi⟩:∃i,X1.length=i:=⟨_,rfl⟩
 rw [hi]
 rcases Nat.lt_or_ge i n with hlt|hge
 ·obtain ⟨x,X2,rfl⟩:=cut_head (l:=X2) (by omega)
  obtain ⟨y,Y2,rfl⟩:=cut_head (l:=Y2) (by omega)
  rw [List.length_cons] at hXl hYl
  have hL:P++(Y1++(x::X2++(Q++(X1++(y::Y2++S)))))=(P++Y1)++x::((X2++(Q++X1))++y::(Y2++S)):=by simp
  rw [hL] at hp
  have hs:=swap_mid (P++Y1) (X2++(Q++X1)) (Y2++S) x y (i:=a+i) (j:=b+i) (by rw [List.length_append];omega) (by simp only [List.length_append];omega)
  have hx1:((P++Y1)++x::((X2++(Q++X1))++y::(Y2++S)))[a+i]? =some x:=by rw [show a+i=(P++Y1).length by rw [List.length_append];omega];exact get_mid _ _ _
  have hx2:((P++Y1)++x::((X2++(Q++X1))++y::(Y2++S)))[b+i]? =some y:=by
   rw [show (P++Y1)++x::((X2++(Q++X1))++y::(Y2++S))=((P++Y1)++x::(X2++(Q++X1)))++y::(Y2++S) by simp,show b+i=((P++Y1)++x::(X2++(Q++X1))).length by simp only [List.length_append,List.length_cons];omega]
   exact get_mid _ _ _
  have hLl:((P++Y1)++x::((X2++(Q++X1))++y::(Y2++S))).length=N:=by simp only [List.length_append,List.length_cons];omega
  have hnew:(P++Y1)++y::((X2++(Q++X1))++x::(Y2++S))=P++((Y1++ [y])++(X2++(Q++((X1++ [x])++(Y2++S))))):=by simp
  rw [hnew] at hs
  clear hL hnew
  obtain ⟨L,hLL⟩:∃L,(P++Y1)++x::((X2++(Q++X1))++y::(Y2++S))=L:=⟨_,rfl⟩
  rw [hLL] at hp hs hx1 hx2 hLl
  clear hLL
  have hab:a+i < N∧b+i < N∧a+i < 1000000∧b+i < 1000000:=by omega
  have hA:(stS (some ⟨g,0,none⟩) c L).A=some ⟨g,0,none⟩:=rfl
  ((conv=>whnf);repeat' (((with_reducible refine br_id ?_);((with_reducible refine br_dec (fun hx=>?_) (fun hx=>?_))<;>(try (exfalso;first|omega|contradiction))))<;>(conv=>whnf)))
  refine dr_autos [7] 1000 tabOk (by kernel_rfl) (by decide+kernel) ?_
  replace hp:=hp.drew
  ((conv=>whnf);repeat' ((first|((with_reducible refine ar_id ?_);first|((refine ar_n (a+i) (by omega) (by omega) ?_))|((refine ar_n (b+i) (by omega) (by omega) ?_))|((refine ar_n (i+1) (by omega) (by omega) ?_)))|((with_reducible refine cn_id ?_);first|(refine cn rfl ?_)|(refine cn (Chg.refl _ _) ?_))|((with_reducible refine ldn_id ?_);((refine ldn_ownx hp 0 rfl ‹_› _ rfl ‹_› rfl ?_)))|((with_reducible refine st_id ?_);first|((refine st_ownx hp 0 rfl rfl (a+i) rfl y rfl (by rw [hLl];omega) (fun _=>rfl) rfl ?_);clear hp;intro w hp;dsimp only [List.set] at hp)|((refine st_ownx hp 0 rfl rfl (b+i) rfl x rfl (by rw [List.length_set,hLl];omega) (fun _=>rfl) rfl ?_);clear hp;intro w hp;dsimp only [List.set] at hp))|((with_reducible refine fk_id ?_);(refine fk_mk ?_ ?_))|((with_reducible refine rd_id ?_);((refine rd_ixs rfl rfl ‹_› rfl rfl (by omega) ?_))))<;>(conv=>whnf)))
  all_goals
   rw [hs] at hp
   exact lp_next (X1++ [x],X2,Y1++ [y],Y2) (by show n - (X1++ [x]).length < n - i;rw [List.length_append,List.length_singleton];omega) (by rw [show (X1++ [x]).length=i+1 by rw [List.length_append,hi];rfl];(repeat' (first|exact trivial|(refine ⟨rfl,?_⟩)))) ⟨by rw [←hX1];simp,by rw [←hY1];simp,by simp only [List.length_append,List.length_singleton];omega,hp⟩
 ·obtain rfl:X2= []:=List.eq_nil_of_length_eq_zero (by omega)
  obtain rfl:Y2= []:=List.eq_nil_of_length_eq_zero (by omega)
  rw [List.append_nil] at hX1 hY1
  subst hX1 hY1
  ((conv=>whnf);repeat' (((with_reducible refine br_id ?_);((with_reducible refine br_dec (fun hx=>?_) (fun hx=>?_))<;>(try (exfalso;first|omega|contradiction))))<;>(conv=>whnf)))
  exact ps_val (v':= .tuple #[]) rfl ⟨rfl,hp.shut1 (j:=0) rfl⟩
theorem rot_any {P X Y S:List Stp} (h:(stR (some ⟨g,0,none⟩) c (P++(X++(Y++S)))).ok w0) (hX:1≤X.length) (hY:1≤Y.length) (ha:P.length=a) (hm:P.length+X.length=m) (hb:P.length+X.length+Y.length=b) (hN:P.length+X.length+Y.length+S.length=N) (hn:N≤1000000):Calls Tryz.prog 277 #[.slice (some ⟨g,0,none⟩) N c,i64 a,i64 m,i64 b,cmpV] w0 fun e w'=>e= .returned (.tuple #[])∧Mut (stR (some ⟨g,0,none⟩) c (P++(X++(Y++S)))) (stR (some ⟨g,0,none⟩) c (P++(Y++(X++S)))) w0 w':=by
 have hp:=Hp.one h
 have us:=Tryz.underlying141
 refine calls_x (args:= [_,_,_,_,_]) tabOk Tryz.func277 Tryz.ntmps277 Tryz.results277 rfl (Nat.le_of_ble_eq_true rfl) ?_
 ((conv=>whnf);repeat' (((with_reducible refine ar_id ?_);first|((refine ar_n X.length (by omega) (by omega) ?_))|((refine ar_n Y.length (by omega) (by omega) ?_)))<;>(conv=>whnf)))
 refine lp_inv (α:=List Stp×List Stp×List Stp×List Stp) (fun x=> [(0, .slice (some ⟨g,0,none⟩) N c),(2,i64 m),(4,cmpV),(10,i64 x.2.1.length),(11,i64 x.2.2.1.length)]) (fun x w=>x.1++(x.2.2.1++(x.2.1++x.2.2.2))=Y++X∧P.length+x.1.length+x.2.1.length=m∧1≤x.2.1.length∧1≤x.2.2.1.length∧Hp (stR (some ⟨g,0,none⟩) c (P++(X++(Y++S)))).dom w0 w [stR (some ⟨g,0,none⟩) c (P++(x.1++(x.2.1++(x.2.2.1++(x.2.2.2++S)))))]) (fun x=>x.2.1.length+x.2.2.1.length) ([],X,Y, []) (by (repeat' (first|exact trivial|(refine ⟨rfl,?_⟩)))) ⟨by simp,by simpa using hm,hX,hY,by simpa using hp⟩ ?_
 clear hp
 rintro ⟨U,X',Y',V⟩ e0 w ⟨hT,hml,hX1,hY1,hp⟩
 dsimp only at hT hml hX1 hY1 hp ⊢
 have hTl:=congrArg List.length hT
 simp only [List.length_append] at hTl
 obtain ⟨i,hi⟩:∃i,X'.length=i:=⟨_,rfl⟩
 obtain ⟨j,hj⟩:∃j,Y'.length=j:=⟨_,rfl⟩
 rw [hi] at hTl hml hX1 ⊢
 rw [hj] at hTl hY1 ⊢
 have hNl:P.length+U.length+i+j+V.length+S.length=N:=by omega
 rcases Nat.lt_trichotomy i j with hlt|heq|hgt
 ·obtain ⟨Y1,Y2,rfl,hl⟩:=cut_at (l:=Y') (n:=j - i) (by omega)
  rw [List.length_append] at hj
  have hL:P++(U++(X'++(Y1++Y2++(V++S))))=(P++U)++(X'++(Y1++(Y2++(V++S)))):=by simp
  rw [hL] at hp
  ((conv=>whnf);repeat' ((first|((with_reducible refine br_id ?_);first|((with_reducible refine br_dec (fun hx=>?_) (fun hx=>?_))<;>(try (exfalso;first|omega|contradiction)))|((with_reducible refine br_ne (fun hx=>?_) (fun hx=>?_))<;>(try (exfalso;first|omega|contradiction))))|((with_reducible refine ar_id ?_);first|((refine ar_n (m - i) (by omega) (by omega) ?_))|((refine ar_n (m+j - i) (by omega) (by omega) ?_))|((refine ar_n (m+j) (by omega) (by omega) ?_))))<;>(conv=>whnf)))
  refine cl_of (swr_any (a:=m - i) (b:=m+j - i) (n:=i) (N:=N) (P:=P++U) (X:=X') (Q:=Y1) (Y:=Y2) (S:=V++S) (hp.get (j:=0) rfl) (by omega) (by omega) (by rw [List.length_append];omega) (by rw [List.length_append];omega) (by simp only [List.length_append];omega) hn) ?_;rintro e w ⟨rfl,hm⟩;replace hp:=hp.via (j:=0) rfl hm;clear hm;(try dsimp only [List.set] at hp);refine ⟨_,rfl,?_⟩;skip
  ((conv=>whnf);repeat' (((with_reducible refine ar_id ?_);((refine ar_n (j - i) (by omega) (by omega) ?_)))<;>(conv=>whnf)))
  have hL2:(P++U)++(Y2++(Y1++(X'++(V++S))))=P++(U++(Y2++(Y1++(X'++V++S)))):=by simp
  rw [hL2] at hp
  exact lp_next (U,Y2,Y1,X'++V) (by show Y2.length+Y1.length < i+j;omega) (by rw [show Y2.length=i by omega,show Y1.length=j - i by omega];(repeat' (first|exact trivial|(refine ⟨rfl,?_⟩)))) ⟨by rw [←hT];simp,by show P.length+U.length+Y2.length=m;omega,by show 1≤Y2.length;omega,by show 1≤Y1.length;omega,hp⟩
 ·subst heq
  have hL:P++(U++(X'++(Y'++(V++S))))=(P++U)++(X'++([]++(Y'++(V++S)))):=by simp
  rw [hL] at hp
  ((conv=>whnf);repeat' ((first|((with_reducible refine br_id ?_);((with_reducible refine br_ne (fun hx=>?_) (fun hx=>?_))<;>(try (exfalso;first|omega|contradiction))))|((with_reducible refine ar_id ?_);((refine ar_n (m - i) (by omega) (by omega) ?_))))<;>(conv=>whnf)))
  refine cl_of (swr_any (a:=m - i) (b:=m) (n:=i) (N:=N) (P:=P++U) (X:=X') (Q:= []) (Y:=Y') (S:=V++S) (hp.get (j:=0) rfl) (by omega) (by omega) (by rw [List.length_append];omega) (by rw [List.length_append,List.length_nil];omega) (by simp only [List.length_append,List.length_nil];omega) hn) ?_;rintro e w ⟨rfl,hm⟩;replace hp:=hp.via (j:=0) rfl hm;clear hm;(try dsimp only [List.set] at hp);refine ⟨_,rfl,?_⟩;skip
  ((conv=>whnf);repeat' ((first|((with_reducible refine br_id ?_);first|(with_reducible refine br_t ?_)|(with_reducible refine br_f ?_)|(with_reducible refine br_not ?_)|((with_reducible refine br_dec (fun hx=>?_) (fun hx=>?_))<;>(try (exfalso;first|omega|contradiction)))|((with_reducible refine br_eq (fun hx=>?_) (fun hx=>?_))<;>(try (exfalso;first|omega|contradiction)))|((with_reducible refine br_ne (fun hx=>?_) (fun hx=>?_))<;>(try (exfalso;first|omega|contradiction)))|((with_reducible refine br_s (fun hx=>?_) (fun hx=>?_))<;>(try (exfalso;first|omega|contradiction))))|((with_reducible refine ar_id ?_);first|(refine ar_i64 (by omega) ?_)|(refine ar_u32 (by omega) ?_)|(refine ar_u64 (by omega) ?_)|(refine ar_u8 (by omega) ?_))|((with_reducible refine cn_id ?_);first|(refine cn rfl ?_)|(refine cn ‹_› ?_)|(refine cn (by omega) ?_)|(refine cn (Chg.refl _ _) ?_))|((with_reducible refine ld_id ?_);first|(apply ld_hs hp;(focus repeat' constructor);exact rfl)|(refine ld_of ‹_› ?_))|((with_reducible refine ldn_id ?_);first|(apply lda_hs hp;(focus repeat' constructor);exact rfl)|(apply ldn_hs hp;(focus repeat' constructor);exact rfl;exact rfl))|((with_reducible refine al_id ?_);(refine al_cel hp ?_;clear hp;intro bb w hp))|((with_reducible refine st_id ?_);first|(apply sta_hs hp;(focus repeat' constructor);exact rfl;exact rfl;clear hp;intro w hp;(try dsimp only [List.set] at hp))|(apply st_hs hp;(focus repeat' constructor);exact rfl;exact rfl;clear hp;intro w hp;(try dsimp only [List.set] at hp)))|((with_reducible refine gen_id ?_);first|(apply gen_build;exact rfl;exact rfl)|(apply gen_len;exact rfl;exact rfl;assumption)|(apply gen_min;exact rfl;exact rfl;exact rfl)|(apply gen_max;exact rfl;exact rfl;exact rfl)|(apply gen_ix;exact rfl;exact rfl;exact rfl;exact rfl;omega)|(apply gen_ixa;exact rfl;exact rfl;exact rfl;exact rfl;omega))|((with_reducible refine dr_id ?_);first|(refine dr_auto tabOk (by kernel_rfl) (by decide+kernel) ?_;(try replace hp:=hp.drew))|(refine dr_autog tabOk (by kernel_rfl) (by decide+kernel) ?_;(try replace hp:=hp.drew))|(refine dr_autot tabOk (by kernel_rfl) (by decide+kernel) ?_;(try replace hp:=hp.drew)))|((with_reducible refine fk_id ?_);(refine fk_mk ?_ ?_))|((with_reducible refine rd_id ?_);first|(apply rd_len;exact rfl;exact rfl;assumption)|(apply rd_ix;exact rfl;exact rfl;exact rfl;exact rfl;omega)))<;>(conv=>whnf)))
  have hL2:(P++U)++(Y'++([]++(X'++(V++S))))=P++((U++(Y'++(X'++V)))++S):=by simp
  rw [hL2,hT] at hp
  rw [List.append_assoc] at hp
  exact ps_val (v':= .tuple #[]) rfl ⟨rfl,hp.shut1 (j:=0) rfl⟩
 ·obtain ⟨X1,X2,rfl,hl⟩:=cut_at (l:=X') (n:=j) (by omega)
  rw [List.length_append] at hi
  have hL:P++(U++(X1++X2++(Y'++(V++S))))=(P++U)++(X1++(X2++(Y'++(V++S)))):=by simp
  rw [hL] at hp
  ((conv=>whnf);repeat' ((first|((with_reducible refine br_id ?_);first|((with_reducible refine br_dec (fun hx=>?_) (fun hx=>?_))<;>(try (exfalso;first|omega|contradiction)))|((with_reducible refine br_ne (fun hx=>?_) (fun hx=>?_))<;>(try (exfalso;first|omega|contradiction))))|((with_reducible refine ar_id ?_);((refine ar_n (m - i) (by omega) (by omega) ?_))))<;>(conv=>whnf)))
  refine cl_of (swr_any (a:=m - i) (b:=m) (n:=j) (N:=N) (P:=P++U) (X:=X1) (Q:=X2) (Y:=Y') (S:=V++S) (hp.get (j:=0) rfl) (by omega) (by omega) (by rw [List.length_append];omega) (by rw [List.length_append];omega) (by simp only [List.length_append];omega) hn) ?_;rintro e w ⟨rfl,hm⟩;replace hp:=hp.via (j:=0) rfl hm;clear hm;(try dsimp only [List.set] at hp);refine ⟨_,rfl,?_⟩;skip
  ((conv=>whnf);repeat' (((with_reducible refine ar_id ?_);((refine ar_n (i - j) (by omega) (by omega) ?_)))<;>(conv=>whnf)))
  have hL2:(P++U)++(Y'++(X2++(X1++(V++S))))=P++((U++Y')++(X2++(X1++(V++S)))):=by simp
  rw [hL2] at hp
  exact lp_next (U++Y',X2,X1,V) (by show X2.length+X1.length < i+j;omega) (by rw [show X2.length=i - j by omega,show X1.length=j by omega];(repeat' (first|exact trivial|(refine ⟨rfl,?_⟩)))) ⟨by rw [←hT];simp,by show P.length+(U++Y').length+X2.length=m;rw [List.length_append];omega,by show 1≤X2.length;omega,by show 1≤X1.length;omega,hp⟩
theorem ins_any {P X S:List Stp} (h:(stR (some ⟨g,0,none⟩) c (P++(X++S))).ok w0) (ha:P.length=a) (hb:P.length+X.length=b) (hN:P.length+X.length+S.length=N) (hn:N≤1000000):Calls Tryz.prog 263 #[.slice (some ⟨g,0,none⟩) N c,i64 a,i64 b,cmpV] w0 fun e w'=>e= .returned (.tuple #[])∧∃X',X'.Perm X∧Srt cmpS X'∧Mut (stR (some ⟨g,0,none⟩) c (P++(X++S))) (stR (some ⟨g,0,none⟩) c (P++(X'++S))) w0 w':=by
 have hp:=Hp.one h
 have us:=Tryz.underlying141
 cases X with
 |nil=>
  rw [List.length_nil,Nat.add_zero] at hb
  subst hb
  refine calls_x (args:= [_,_,_,_]) tabOk Tryz.func263 Tryz.ntmps263 Tryz.results263 rfl (Nat.le_of_ble_eq_true rfl) ?_
  ((conv=>whnf);repeat' (((with_reducible refine ar_id ?_);((refine ar_n (a+1) (by omega) (by omega) ?_)))<;>(conv=>whnf)))
  refine lp_inv (α:=Unit) (fun x=> [(1,i64 a),(2,i64 P.length),(8,i64 (a+1:Nat))]) (fun x w=>Hp (stR (some ⟨g,0,none⟩) c (P++([]++S))).dom w0 w [stR (some ⟨g,0,none⟩) c (P++([]++S))]) (fun _=>0) () (by (repeat' (first|exact trivial|(refine ⟨rfl,?_⟩)))) hp ?_
  clear hp
  rintro _ e0 w hp
  ((conv=>whnf);repeat' (((with_reducible refine br_id ?_);((with_reducible refine br_dec (fun hx=>?_) (fun hx=>?_))<;>(try (exfalso;first|omega|contradiction))))<;>(conv=>whnf)))
  exact ps_val (v':= .tuple #[]) rfl ⟨rfl, [], .refl _, .nil,hp.shut1 (j:=0) rfl⟩
 |cons x0 X0=>
 obtain ⟨W0,hW0⟩:∃W0,(stR (some ⟨g,0,none⟩) c (P++(x0::X0++S))).dom=W0:=⟨_,rfl⟩
 rw [List.length_cons] at hb hN
 have hd0:=hW0
 rw [hW0] at hp
 refine calls_x (args:= [_,_,_,_]) tabOk Tryz.func263 Tryz.ntmps263 Tryz.results263 rfl (Nat.le_of_ble_eq_true rfl) ?_
 ((conv=>whnf);repeat' (((with_reducible refine ar_id ?_);((refine ar_n (a+1) (by omega) (by omega) ?_)))<;>(conv=>whnf)))
 refine lp_inv (α:=List Stp×List Stp) (fun x=> [(0, .slice (some ⟨g,0,none⟩) N c),(1,i64 a),(2,i64 b),(3,cmpV),(8,i64 (a+x.1.length:Nat))]) (fun x w=>(x.1++x.2).Perm (x0::X0)∧Srt cmpS x.1∧1≤x.1.length∧Hp W0 w0 w [stR (some ⟨g,0,none⟩) c (P++(x.1++(x.2++S)))]) (fun x=>x.2.length) ([x0],X0) (by (repeat' (first|exact trivial|(refine ⟨rfl,?_⟩)))) ⟨.refl _,List.pairwise_singleton _ _,Nat.le_refl _,hp⟩ ?_
 clear hp
 rintro ⟨Z,R⟩ e0 w ⟨hPm,hSr,hZ,hp⟩
 dsimp only at hPm hSr hZ hp ⊢
 have hPl:=hPm.length_eq
 rw [List.length_append,List.length_cons] at hPl
 obtain ⟨i,hi⟩:∃i,a+Z.length=i:=⟨_,rfl⟩
 rw [hi]
 cases R with
 |nil=>
  rw [List.length_nil] at hPl
  rw [List.append_nil] at hPm
  ((conv=>whnf);repeat' (((with_reducible refine br_id ?_);((with_reducible refine br_dec (fun hx=>?_) (fun hx=>?_))<;>(try (exfalso;first|omega|contradiction))))<;>(conv=>whnf)))
  refine ps_val (v':= .tuple #[]) rfl ⟨rfl,Z,hPm,hSr,?_⟩
  rw [←hW0] at hp
  exact hp.shut1 (j:=0) rfl
 |cons x R=>
 rw [List.length_cons] at hPl
 have hib:i < b∧i < 1000000:=by omega
 ((conv=>whnf);repeat' (((with_reducible refine br_id ?_);((with_reducible refine br_dec (fun hx=>?_) (fun hx=>?_))<;>(try (exfalso;first|omega|contradiction))))<;>(conv=>whnf)))
 refine lp_inv (α:=List Stp×List Stp) (fun y=> [(0, .slice (some ⟨g,0,none⟩) N c),(1,i64 a),(2,i64 b),(3,cmpV),(8,i64 i),(9,i64 (a+y.1.length:Nat))]) (fun y w=>y.1++y.2=Z∧(∀u,y.2.head? =some u→leC cmpS x u)∧Hp W0 w0 w [stR (some ⟨g,0,none⟩) c (P++(y.1++(x::(y.2++(R++S)))))]) (fun y=>y.1.length) (Z, []) (by rw [hi];(repeat' (first|exact trivial|(refine ⟨rfl,?_⟩)))) ⟨by rw [List.append_nil],fun u hu=>(by cases hu),hp⟩ ?_
 clear hp
 rintro ⟨Z1,Z2⟩ e0 w ⟨hZZ,hhd,hp⟩
 dsimp only at hZZ hhd hp ⊢
 have hZl:Z1.length+Z2.length=Z.length:=by rw [←hZZ,List.length_append]
 have hdone:(∀u,Z1.getLast? =some u→leC cmpS u x)→((Z1++x::Z2)++R).Perm (x0::X0)∧Srt cmpS (Z1++x::Z2)∧(Z1++x::Z2).length=Z.length+1:=fun h1=>by
  subst hZZ
  refine ⟨?_,srt_put cmp_ok hSr h1 hhd,by simp only [List.length_append,List.length_cons];omega⟩
  refine List.Perm.trans ?_ hPm
  rw [List.append_assoc,List.append_assoc]
  refine List.Perm.append_left Z1 ?_
  exact List.perm_middle.symm
 have hout:P++(Z1++(x::(Z2++(R++S))))=P++((Z1++x::Z2)++(R++S)):=by simp
 rcases Nat.eq_zero_or_pos Z1.length with h0|h0
 ·obtain rfl:Z1= []:=List.eq_nil_of_length_eq_zero h0
  obtain ⟨d1,d2,d3⟩:=hdone fun u hu=>(by cases hu)
  rw [hout] at hp
  ((conv=>whnf);repeat' ((first|((with_reducible refine br_id ?_);first|(with_reducible refine br_f ?_)|((with_reducible refine br_dec (fun hx=>?_) (fun hx=>?_))<;>(try (exfalso;first|omega|contradiction))))|((with_reducible refine ar_id ?_);((refine ar_n (i+1) (by omega) (by omega) ?_)))|((with_reducible refine dr_id ?_);(refine dr_auto tabOk (by kernel_rfl) (by decide+kernel) ?_;(try replace hp:=hp.drew))))<;>(conv=>whnf)))
  exact lp_next ([]++x::Z2,R) (by show R.length < (x::R).length;rw [List.length_cons];omega) (by rw [d3,show a+(Z.length+1)=i+1 by omega];(repeat' (first|exact trivial|(refine ⟨rfl,?_⟩)))) ⟨d1,d2,by show 1≤([]++x::Z2).length;omega,hp⟩
 obtain ⟨Z1,z,rfl⟩:=cut_last (l:=Z1) h0
 rw [List.length_append,List.length_singleton] at hZl
 obtain ⟨k,hk⟩:∃k,a+Z1.length=k:=⟨_,rfl⟩
 have hkk:a+(Z1++ [z]).length=k+1:=by rw [List.length_append,List.length_singleton];omega
 rw [hkk]
 have hak:a < k+1∧k+1 < N∧k+1 < 1000000:=by omega
 have hL:P++(Z1++ [z]++(x::(Z2++(R++S))))=(P++Z1)++z::([]++x::(Z2++(R++S))):=by simp
 have hnew:(P++Z1)++x::([]++z::(Z2++(R++S)))=P++(Z1++(x::((z::Z2)++(R++S)))):=by simp
 have hs:=swap_rev (P++Z1) [] (Z2++(R++S)) z x (i:=k+1) (j:=k) (by rw [List.length_append];show k+1=_+1+0;omega) (by rw [List.length_append];omega)
 have hx2:((P++Z1)++z::([]++x::(Z2++(R++S))))[k]? =some z:=by rw [show k=(P++Z1).length by rw [List.length_append];omega];exact get_mid _ _ _
 have hx1:((P++Z1)++z::([]++x::(Z2++(R++S))))[k+1]? =some x:=by
  rw [show (P++Z1)++z::([]++x::(Z2++(R++S)))=((P++Z1)++ [z])++x::(Z2++(R++S)) by simp,show k+1=((P++Z1)++ [z]).length by simp only [List.length_append,List.length_singleton];omega]
  exact get_mid _ _ _
 have hLl:((P++Z1)++z::([]++x::(Z2++(R++S)))).length=N:=by simp only [List.length_append,List.length_cons,List.length_nil];omega
 have hout2:(P++Z1)++z::([]++x::(Z2++(R++S)))=P++((Z1++ [z]++x::Z2)++(R++S)):=by simp
 rw [hnew] at hs
 rw [hL] at hp
 clear hL hnew hout
 obtain ⟨L,hLL⟩:∃L,(P++Z1)++z::([]++x::(Z2++(R++S)))=L:=⟨_,rfl⟩
 rw [hLL] at hp hs hx1 hx2 hLl hout2
 clear hLL
 have hA:(stS (some ⟨g,0,none⟩) c L).A=some ⟨g,0,none⟩:=rfl
 have hcmp:=fun w=>cmpS_any x z w
 obtain ⟨q,hq⟩:∃q,cmpS x z=q:=⟨_,rfl⟩
 rw [hq] at hcmp
 by_cases hneg:q < 0
 ·((conv=>whnf);repeat' ((first|((with_reducible refine br_id ?_);first|(with_reducible refine br_t ?_)|(with_reducible refine br_f ?_)|(with_reducible refine br_not ?_)|((with_reducible refine br_dec (fun hx=>?_) (fun hx=>?_))<;>(try (exfalso;first|omega|contradiction)))|((with_reducible refine br_eq (fun hx=>?_) (fun hx=>?_))<;>(try (exfalso;first|omega|contradiction)))|((with_reducible refine br_ne (fun hx=>?_) (fun hx=>?_))<;>(try (exfalso;first|omega|contradiction)))|((with_reducible refine br_s (fun hx=>?_) (fun hx=>?_))<;>(try (exfalso;first|omega|contradiction))))|((with_reducible refine ar_id ?_);first|((refine ar_n (k) (by omega) (by omega) ?_))|(refine ar_i64 (by omega) ?_)|(refine ar_u32 (by omega) ?_)|(refine ar_u64 (by omega) ?_)|(refine ar_u8 (by omega) ?_))|((with_reducible refine cn_id ?_);first|(refine cn rfl ?_)|(refine cn ‹_› ?_)|(refine cn (by omega) ?_)|(refine cn (Chg.refl _ _) ?_))|((with_reducible refine ld_id ?_);first|((refine ld_own hp 0 rfl ‹_› _ _ rfl ‹_› (by rfl) ?_))|((refine ld_own0 hp 0 rfl ‹_› _ rfl ‹_› (by rfl) ?_))|(apply ld_hs hp;(focus repeat' constructor);exact rfl)|(refine ld_of ‹_› ?_))|((with_reducible refine ldn_id ?_);first|((refine ldn_own hp 0 rfl ‹_› _ _ rfl ‹_› (by rfl) (by rfl) ?_))|((refine ldn_ownx hp 0 rfl ‹_› _ rfl ‹_› rfl ?_))|(apply lda_hs hp;(focus repeat' constructor);exact rfl)|(apply ldn_hs hp;(focus repeat' constructor);exact rfl;exact rfl))|((with_reducible refine al_id ?_);(refine al_cel hp ?_;clear hp;intro bb w hp))|((with_reducible refine st_id ?_);first|(apply sta_hs hp;(focus repeat' constructor);exact rfl;exact rfl;clear hp;intro w hp;(try dsimp only [List.set] at hp))|(apply st_hs hp;(focus repeat' constructor);exact rfl;exact rfl;clear hp;intro w hp;(try dsimp only [List.set] at hp)))|((with_reducible refine gen_id ?_);first|((refine gen_ixs rfl rfl ‹_› rfl rfl (by omega) ?_))|(apply gen_build;exact rfl;exact rfl)|(apply gen_len;exact rfl;exact rfl;assumption)|(apply gen_min;exact rfl;exact rfl;exact rfl)|(apply gen_max;exact rfl;exact rfl;exact rfl)|(apply gen_ix;exact rfl;exact rfl;exact rfl;exact rfl;omega)|(apply gen_ixa;exact rfl;exact rfl;exact rfl;exact rfl;omega))|((with_reducible refine fk_id ?_);(refine fk_mk ?_ ?_))|((with_reducible refine cl_id ?_);((refine cl_eq ((hcmp _)) rfl rfl ?_;rintro e w ⟨rfl,hcc⟩;replace hp:=hp.call0 hcc;refine ⟨_,rfl,?_⟩)))|((with_reducible refine rd_id ?_);first|((refine rd_ixs rfl rfl ‹_› rfl rfl (by omega) ?_))|(apply rd_len;exact rfl;exact rfl;assumption)|(apply rd_ix;exact rfl;exact rfl;exact rfl;exact rfl;omega)))<;>(conv=>whnf)))
  refine dr_auto tabOk (by kernel_rfl) (by decide+kernel) ?_
  replace hp:=hp.drew
  ((conv=>whnf);repeat' ((first|((with_reducible refine br_id ?_);first|(with_reducible refine br_t ?_)|((with_reducible refine br_dec (fun hx=>?_) (fun hx=>?_))<;>(try (exfalso;first|omega|contradiction))))|((with_reducible refine ar_id ?_);((refine ar_n (k) (by omega) (by omega) ?_)))|((with_reducible refine ldn_id ?_);((refine ldn_ownx hp 0 rfl ‹_› _ rfl ‹_› rfl ?_)))|((with_reducible refine cl_id ?_);((refine cl_eq ((hcmp _)) rfl rfl ?_;rintro e w ⟨rfl,hcc⟩;replace hp:=hp.call0 hcc;refine ⟨_,rfl,?_⟩)))|((with_reducible refine rd_id ?_);((refine rd_ixs rfl rfl ‹_› rfl rfl (by omega) ?_))))<;>(conv=>whnf)))
  refine dr_autos [4] 1000 tabOk (by kernel_rfl) (by decide+kernel) ?_
  replace hp:=hp.drew
  ((conv=>whnf);repeat' ((first|((with_reducible refine ar_id ?_);((refine ar_n (k) (by omega) (by omega) ?_)))|((with_reducible refine cn_id ?_);first|(refine cn rfl ?_)|(refine cn (Chg.refl _ _) ?_))|((with_reducible refine ldn_id ?_);((refine ldn_ownx hp 0 rfl ‹_› _ rfl ‹_› rfl ?_)))|((with_reducible refine st_id ?_);first|((refine st_ownx hp 0 rfl rfl (k+1) rfl z rfl (by rw [hLl];omega) (fun _=>rfl) rfl ?_);clear hp;intro w hp;dsimp only [List.set] at hp)|((refine st_ownx hp 0 rfl rfl k rfl x rfl (by rw [List.length_set,hLl];omega) (fun _=>rfl) rfl ?_);clear hp;intro w hp;dsimp only [List.set] at hp))|((with_reducible refine fk_id ?_);(refine fk_mk ?_ ?_))|((with_reducible refine rd_id ?_);((refine rd_ixs rfl rfl ‹_› rfl rfl (by omega) ?_))))<;>(conv=>whnf)))
  all_goals
   rw [hs] at hp
   exact lp_next (Z1,z::Z2) (by show Z1.length < (Z1++ [z]).length;rw [List.length_append,List.length_singleton];omega) (by rw [hk];(repeat' (first|exact trivial|(refine ⟨rfl,?_⟩)))) ⟨by rw [←hZZ];simp,fun u hu=>(by obtain rfl:z=u:=(by simpa using hu);exact cmp_ok.asym _ _ (by rw [hq];exact hneg)),hp⟩
 ·obtain ⟨d1,d2,d3⟩:=hdone fun u hu=>(by obtain rfl:z=u:=(by simpa using hu);show ¬cmpS x z < 0;rw [hq];exact hneg)
  ((conv=>whnf);repeat' ((first|((with_reducible refine br_id ?_);first|(with_reducible refine br_t ?_)|((with_reducible refine br_dec (fun hx=>?_) (fun hx=>?_))<;>(try (exfalso;first|omega|contradiction))))|((with_reducible refine ar_id ?_);first|((refine ar_n (k) (by omega) (by omega) ?_))|((refine ar_n (i+1) (by omega) (by omega) ?_)))|((with_reducible refine ldn_id ?_);((refine ldn_ownx hp 0 rfl ‹_› _ rfl ‹_› rfl ?_)))|((with_reducible refine dr_id ?_);(refine dr_auto tabOk (by kernel_rfl) (by decide+kernel) ?_;(try replace hp:=hp.drew)))|((with_reducible refine cl_id ?_);((refine cl_eq ((hcmp _)) rfl rfl ?_;rintro e w ⟨rfl,hcc⟩;replace hp:=hp.call0 hcc;refine ⟨_,rfl,?_⟩)))|((with_reducible refine rd_id ?_);((refine rd_ixs rfl rfl ‹_› rfl rfl (by omega) ?_))))<;>(conv=>whnf)))
  all_goals
   rw [hout2] at hp
   exact lp_next (Z1++ [z]++x::Z2,R) (by show R.length < (x::R).length;rw [List.length_cons];omega) (by rw [d3,show a+(Z.length+1)=i+1 by omega];(repeat' (first|exact trivial|(refine ⟨rfl,?_⟩)))) ⟨d1,d2,by show 1≤(Z1++ [z]++x::Z2).length;omega,hp⟩
end
end Go.Proofs.YteabebmlclgakaaGreat
/- Plan2: package plan: the steps of one job. Of payloads that are few. -/
namespace Go.Proofs.YteabebmlclgakaaGreat
open Go.RowKit
set_option maxRecDepth 100000
set_option maxHeartbeats 4000000
abbrev stpRs (s:Sl Stp):List Res:=rowR 144 39 Stp.c s::s.l.map fun x=>stxR x.sub
theorem steps_any {B:Nat} {w0:World} {j:Job} (h:PayAt B w0 j.pay) (hf:fewP j.pay=true) (place:Int) (ht:UInt32) (far:Int) (hs: -9223372036854775808≤far∧far≤9223372036854775807):
  Calls Tryz.prog 159 #[j.v,i64 place,u32 ht,i64 far] w0 fun e w'=>∃r:Sl Stp,r.l.map Stp.p=stepsP place far j.p ht∧r.l.length≤20∧e= .returned r.v∧Made (star (stpRs r)) w0 w':=by
 have hp:=Hp.start (S:=N0) w0
 have hB:∀b,N0 b→B≤b:=fun _ hh=>hh.elim
 have us:=Tryz.underlying141
 have u1:=Tryz.underlying45
 have hht:=ht.toNat_lt
 have hfl:=(fewP_at hf).2
 by_cases hm:ht.toNat=4294967295
 ·have hT:stepsP place far j.p ht= []:=if_pos hm
  refine calls_x (args:= [_,_,_,_]) tabOk Tryz.func159 Tryz.ntmps159 Tryz.results159 rfl (Nat.le_of_ble_eq_true rfl) ?_
  ((conv=>whnf);repeat' ((first|((with_reducible refine br_id ?_);((with_reducible refine br_eq (fun hx=>?_) (fun hx=>?_))<;>(try (exfalso;first|omega|contradiction))))|((with_reducible refine al_id ?_);(refine al_cel hp ?_;clear hp;intro bb w hp)))<;>(conv=>whnf)))
  all_goals first
   |(exfalso;omega)
   |exact ps_of ⟨Sl.nil,hT.symm,by simp [Sl.nil],rfl,(((hp.nilRow 144 39 Stp.c).pick (rs':=stpRs Sl.nil) [0] (by decide) rfl)).made (.refl _)⟩
 ·have h1:(ht+1).toNat=ht.toNat+1:=by
   rw [UInt32.toNat_add]
   have:(1:UInt32).toNat=1:=rfl
   rw [this]
   omega
  have hT:stepsP place far j.p ht=stepL place far 4294967296 j.p (ht+1):=if_neg hm
  rw [hT]
  clear hT
  obtain ⟨F,hF⟩:∃F:Nat,F=4294967296:=⟨_,rfl⟩
  rw [←hF]
  obtain ⟨T,hT⟩:∃T,stepL place far F j.p (ht+1)=T:=⟨_,rfl⟩
  rw [hT]
  obtain ⟨h0,hh0⟩:∃x,ht+1=x:=⟨_,rfl⟩
  have ar_h:∀{f:Int→Prop},f (h0.toNat:Int)→Ar .u32 ((ht.toNat:Int)+1) f:=fun {f} hf=>ar_u32 (by omega) (by rw [←hh0] at hf;rw [h1] at hf;exact hf)
  rw [hh0] at hT
  refine calls_x (args:= [_,_,_,_]) tabOk Tryz.func159 Tryz.ntmps159 Tryz.results159 rfl (Nat.le_of_ble_eq_true rfl) ?_
  ((conv=>whnf);repeat' ((first|((with_reducible refine br_id ?_);((with_reducible refine br_eq (fun hx=>?_) (fun hx=>?_))<;>(try (exfalso;first|omega|contradiction))))|((with_reducible refine ar_id ?_);((refine ar_h ?_)))|((with_reducible refine al_id ?_);(refine al_cel hp ?_;clear hp;intro bb w hp)))<;>(conv=>whnf)))
  all_goals first
   |(exfalso;omega)
   |skip
  obtain ⟨b4,hb4⟩:∃x,x=bb:=⟨_,rfl⟩
  subst hb4
  have hjl:∀L,({j with live:=L}:Job).p.tiers.length=j.pay.l.length:=fun L=>List.length_map ..
  refine lp_inv (α:=UInt32×Bool×Int×Sl Stp) (fun a=> [(1,i64 place),(3,i64 far),(4,ptr b4),(9,a.2.2.2.v),(10,u32 a.1),(11, .bool a.2.1)])
   (fun a w=>a.2.2.2.l.length≤20∧(a.2.1=true→a.2.2.2.l.length≤tierAt j.height.toNat a.1.toNat far j.pay.l.length)∧(∃f,4294967296≤f+a.1.toNat∧a.2.2.2.l.map Stp.p++(if a.2.1=true then stepL place far f ({j with live:=a.2.2.1}:Job).p a.1 else [])=T)∧Hp N0 w0 w (cel b4 49 (Job.c {j with live:=a.2.2.1}).toArray::stpRs a.2.2.2))
   (fun a=>if a.2.1=true then 4294967297 - a.1.toNat else 0) (h0,true,j.live,Sl.nil) (by (repeat' (first|exact trivial|(refine ⟨rfl,?_⟩)))) ⟨by simp [Sl.nil],fun _=>Nat.zero_le _,⟨F,by rw [hF];exact Nat.le_add_right _ _,by rw [if_pos rfl];exact hT⟩,(hp.nilRow 144 39 Stp.c).pick [1,0] (by decide) rfl⟩ ?_
  clear hp hT ar_h
  rintro ⟨x,ok,L,r⟩ e0 w ⟨hrl,hrt,⟨f,hf1,hT⟩,hp⟩
  dsimp only at hrl hrt hf1 hT hp ⊢
  have hxx:=x.toNat_lt
  cases ok with
  |false=>
   rw [if_neg (by decide),List.append_nil] at hT
   ((conv=>whnf);repeat' (((with_reducible refine br_id ?_);(with_reducible refine br_f ?_))<;>(conv=>whnf)))
   exact ps_of ⟨r,hT,hrl,rfl,(hp.tail).made (.refl _)⟩
  |true=>
   rw [if_pos rfl] at hT
   obtain ⟨f,rfl⟩:∃g,f=g+1:=⟨f - 1,by omega⟩
   have hrt:=hrt rfl
   have hnt:=fun w=>tnext_any w j.height x far hs j.pay.l.length (by omega)
   have hT1:stepL place far (f+1) ({j with live:=L}:Job).p x=(stpO place far x ({j with live:=L}:Job).p).toList++
    (match nextT j.height.toNat x.toNat far j.pay.l.length with
     |none=> []
     |some m=>stepL place far f (sentJ x far ({j with live:=L}:Job).p) (UInt32.ofNat m)):=by
    rw [←hjl L]
    rfl
   rw [hT1] at hT
   clear hT1
   have hdu:=fun {w:World} (hc:Chg N0 w0 w)=>due_any (j:={j with live:=L}) (h.keep hc hB) hf x far hs
   cases hd:dueP ({j with live:=L}:Job).p x far with
   |none=>
    have hsj:sentJ x far ({j with live:=L}:Job).p=({j with live:=L}:Job).p:=by unfold sentJ;rw [hd]
    rw [stpO_none hd,hsj,Option.toList_none,List.nil_append] at hT
    have hdn:=fun {w:World} (hc:Chg N0 w0 w)=>(hdu hc).mono fun _ _ hh=>duePost_no hh hd
    cases hn:nextT j.height.toNat x.toNat far j.pay.l.length with
    |none=>
     rw [hn] at hT hnt
     dsimp only at hT
     rw [List.append_nil] at hT
     ((conv=>whnf);repeat' ((first|((with_reducible refine br_id ?_);first|(with_reducible refine br_t ?_)|(with_reducible refine br_f ?_))|((with_reducible refine cn_id ?_);(refine cn rfl ?_))|((with_reducible refine ld_id ?_);(apply ld_hs hp;(focus repeat' constructor);exact rfl))|((with_reducible refine ldn_id ?_);(apply lda_hs hp;(focus repeat' constructor);exact rfl))|((with_reducible refine al_id ?_);(refine al_cel hp ?_;clear hp;intro bb w hp))|((with_reducible refine st_id ?_);(apply sta_hs hp;(focus repeat' constructor);exact rfl;exact rfl;clear hp;intro w hp;(try dsimp only [List.set] at hp)))|((with_reducible refine gen_id ?_);(apply gen_len;exact rfl;exact rfl;assumption))|((with_reducible refine cl_id ?_);first|((refine cl_eq ((hdn hp.chg)) rfl rfl ?_;rintro e w ⟨rfl,hcc⟩;replace hp:=hp.call0 hcc;refine ⟨_,rfl,?_⟩))|((refine cl_eq ((hnt _)) rfl rfl ?_;rintro e w ⟨rfl,hcc⟩;replace hp:=hp.call0 hcc;refine ⟨_,rfl,?_⟩))))<;>(conv=>whnf)))
     all_goals exact lp_next (0,false,L,r) (by show (if false=true then _ else 0) < (if true=true then _ else 0);rw [if_neg (by decide),if_pos rfl];omega) (by (repeat' (first|exact trivial|(refine ⟨rfl,?_⟩)))) ⟨hrl,fun hh=>(by cases hh),⟨F,by rw [hF];exact Nat.le_add_right _ _,by show _++(if false=true then _ else [])=T;rw [if_neg (by decide),List.append_nil];exact hT⟩,hp.tail⟩
    |some m=>
     obtain ⟨g1,g2,g3,g4⟩:=next_gt hn
     obtain ⟨y,rfl⟩:∃y:UInt32,m=y.toNat:=⟨UInt32.ofNat m,by simp;omega⟩
     rw [hn] at hT hnt
     dsimp only at hT
     rw [UInt32.ofNat_toNat] at hT
     ((conv=>whnf);repeat' ((first|((with_reducible refine br_id ?_);first|(with_reducible refine br_t ?_)|(with_reducible refine br_f ?_))|((with_reducible refine cn_id ?_);(refine cn rfl ?_))|((with_reducible refine ld_id ?_);(apply ld_hs hp;(focus repeat' constructor);exact rfl))|((with_reducible refine ldn_id ?_);(apply lda_hs hp;(focus repeat' constructor);exact rfl))|((with_reducible refine al_id ?_);(refine al_cel hp ?_;clear hp;intro bb w hp))|((with_reducible refine st_id ?_);(apply sta_hs hp;(focus repeat' constructor);exact rfl;exact rfl;clear hp;intro w hp;(try dsimp only [List.set] at hp)))|((with_reducible refine gen_id ?_);(apply gen_len;exact rfl;exact rfl;assumption))|((with_reducible refine cl_id ?_);first|((refine cl_eq ((hdn hp.chg)) rfl rfl ?_;rintro e w ⟨rfl,hcc⟩;replace hp:=hp.call0 hcc;refine ⟨_,rfl,?_⟩))|((refine cl_eq ((hnt _)) rfl rfl ?_;rintro e w ⟨rfl,hcc⟩;replace hp:=hp.call0 hcc;refine ⟨_,rfl,?_⟩))))<;>(conv=>whnf)))
     all_goals exact lp_next (y,true,L,r) (by show (if true=true then 4294967297 - y.toNat else 0) < (if true=true then 4294967297 - x.toNat else 0);rw [if_pos rfl,if_pos rfl];omega) (by (repeat' (first|exact trivial|(refine ⟨rfl,?_⟩)))) ⟨hrl,fun _=>(by show _≤tierAt _ y.toNat _ _;rw [g3];exact Nat.le_succ_of_le hrt),⟨f,by show _≤f+y.toNat;omega,by show _++(if true=true then _ else [])=T;rw [if_pos rfl];exact hT⟩,hp.tail⟩
   |some n=>
    obtain ⟨hnl,hmn,hnt2⟩:=dueP_lt hd
    rw [hjl L] at hnl hnt2
    change n=tierAt j.height.toNat x.toNat far j.pay.l.length at hnt2
    obtain ⟨b5,o5,t,hA,hbb,hrow,htt⟩:=h.row.has hnl
    have htk:({j with live:=L}:Job).p.tiers[n]? =some (tk t):=by
     show (j.pay.l.map tk)[n]? =_
     rw [List.getElem?_map,htt]
     rfl
    have hsj:sentJ x far ({j with live:=L}:Job).p=({j with live:=n}:Job).p:=by
     unfold sentJ
     rw [hd]
     rfl
    have hso:stpO place far x ({j with live:=L}:Job).p=some ⟨⟨j.key,j.breach,x,n,(tk t).2⟩,place,(tk t).1⟩:=by unfold stpO;rw [hd];dsimp only;rw [htk];rfl
    rw [hso,hsj,Option.toList_some] at hT
    have hdy:=fun {w:World} (hc:Chg N0 w0 w)=>(hdu hc).mono fun _ _ hh=>duePost_yes hh hd
    ((conv=>whnf);repeat' ((first|((with_reducible refine br_id ?_);(with_reducible refine br_t ?_))|((with_reducible refine ldn_id ?_);(apply lda_hs hp;(focus repeat' constructor);exact rfl)))<;>(conv=>whnf)))
    refine cl_eq (hdy hp.chg) rfl rfl ?_
    rintro e w ⟨z,hz,hzt,rfl,hm⟩
    obtain ⟨zk,zb,zh,zt,zx⟩:=z
    dsimp only at hzt
    subst hzt
    replace hp:=hp.add hm
    clear hm
    refine ⟨_,rfl,?_⟩
    have hzp:Sub.p ⟨zk,zb,zh,n,zx⟩=⟨j.key,j.breach,x,n,(tk t).2⟩:=by
     unfold subO at hz
     rw [hd] at hz
     dsimp only at hz
     rw [htk] at hz
     exact (Option.some.inj hz).symm
    ((conv=>whnf);repeat' ((first|((with_reducible refine br_id ?_);(with_reducible refine br_t ?_))|((with_reducible refine cn_id ?_);(refine cn rfl ?_))|((with_reducible refine al_id ?_);(refine al_cel hp ?_;clear hp;intro bb w hp))|((with_reducible refine st_id ?_);(apply sta_hs hp;(focus repeat' constructor);exact rfl;exact rfl;clear hp;intro w hp;(try dsimp only [List.set] at hp))))<;>(conv=>whnf)))
    have hix:(0:Int)≤(n:Int)∧(n:Int) < (j.pay.l.length:Int):=by omega
    refine dr_autos [] 13 tabOk (by kernel_rfl) (by decide+kernel) ?_
    replace hp:=hp.drew
    ((conv=>whnf);repeat' ((first|((with_reducible refine cn_id ?_);(refine cn rfl ?_))|((with_reducible refine ld_id ?_);first|((refine ld_row hp hB hbb hrow n 0 rfl htt rfl ?_))|(apply ld_hs hp;(focus repeat' constructor);exact rfl))|((with_reducible refine ldn_id ?_);(apply lda_hs hp;(focus repeat' constructor);exact rfl))|((with_reducible refine st_id ?_);(apply st_hs hp;(focus repeat' constructor);exact rfl;exact rfl;clear hp;intro w hp;(try dsimp only [List.set] at hp)))|((with_reducible refine gen_id ?_);first|((refine gen_build (t:=144) (out:=(Stp.c ⟨⟨zk,zb,zh,n,zx⟩,place,t.fee⟩)) rfl (by kernel_rfl) ?_))|((refine gen_bs rfl hp el_stp Stp.c [⟨⟨zk,zb,zh,n,zx⟩,place,t.fee⟩] [Stp.v ⟨⟨zk,zb,zh,n,zx⟩,place,t.fee⟩] rfl rfl rfl (fun _ hh=>by simp at hh;subst hh;rfl) (by omega) ?_);clear hp;intro br w hp)|((refine gen_app (s:=r) rfl hp 4 rfl el_stp rfl ⟨some ⟨br,0,none⟩,1, [⟨⟨zk,zb,zh,n,zx⟩,place,t.fee⟩]⟩ rfl (hp.row (j:=0) rfl) (fun _ _=>rfl) stp_one (by simp only [List.length_cons,List.length_nil];omega) (by simp only [maxLen,List.length_cons,List.length_nil];omega) ?_);clear hp;intro A3 c3 w hp;dsimp only [List.set] at hp)|(apply gen_len;exact rfl;exact rfl;assumption))|((with_reducible refine rd_id ?_);((refine rd_ixs (sz:=2) (n0:=0) rfl rfl hA rfl (by kernel_rfl) (by omega) ?_))))<;>(conv=>whnf)))
    have hlen:(r.l++ [(⟨⟨zk,zb,zh,n,zx⟩,place,t.fee⟩:Stp)]).length≤n+1:=by rw [List.length_append];show r.l.length+1≤n+1;omega
    have hmap:∀R:List StpP,(r.l++ [(⟨⟨zk,zb,zh,n,zx⟩,place,t.fee⟩:Stp)]).map Stp.p++R=r.l.map Stp.p++([⟨⟨j.key,j.breach,x,n,(tk t).2⟩,place,(tk t).1⟩]++R):=fun R=>by
     rw [List.map_append,List.append_assoc,←hzp]
     rfl
    rw [←hmap] at hT
    cases hn:nextT j.height.toNat x.toNat far j.pay.l.length with
    |none=>
     rw [hn] at hT hnt
     dsimp only at hT
     rw [List.append_nil] at hT
     ((conv=>whnf);repeat' (((with_reducible refine cl_id ?_);((refine cl_eq ((hnt _)) rfl rfl ?_;rintro e w ⟨rfl,hcc⟩;replace hp:=hp.call0 hcc;refine ⟨_,rfl,?_⟩)))<;>(conv=>whnf)))
     have h5:=hp.tail.tail.perm (List.perm_append_singleton _ _).symm
     refine lp_next (0,false,n,⟨A3,c3,r.l++ [⟨⟨zk,zb,zh,n,zx⟩,place,t.fee⟩]⟩) (by show (if false=true then _ else 0) < (if true=true then _ else 0);rw [if_neg (by decide),if_pos rfl];omega) (by (repeat' (first|exact trivial|(refine ⟨rfl,?_⟩)))) ⟨by show (r.l++ [(⟨⟨zk,zb,zh,n,zx⟩,place,t.fee⟩:Stp)]).length≤20;omega,fun hh=>(by cases hh),⟨F,by rw [hF];exact Nat.le_add_right _ _,by show _++(if false=true then _ else [])=T;rw [if_neg (by decide),List.append_nil];exact hT⟩,?_⟩
     show Hp N0 w0 w (_::_::(r.l++ [(⟨⟨zk,zb,zh,n,zx⟩,place,t.fee⟩:Stp)]).map fun x=>stxR x.sub)
     rw [List.map_append]
     exact h5
    |some m=>
     obtain ⟨g1,g2,g3,g4⟩:=next_gt hn
     obtain ⟨y,rfl⟩:∃y:UInt32,m=y.toNat:=⟨UInt32.ofNat m,by simp;omega⟩
     rw [hn] at hT hnt
     dsimp only at hT
     rw [UInt32.ofNat_toNat] at hT
     ((conv=>whnf);repeat' (((with_reducible refine cl_id ?_);((refine cl_eq ((hnt _)) rfl rfl ?_;rintro e w ⟨rfl,hcc⟩;replace hp:=hp.call0 hcc;refine ⟨_,rfl,?_⟩)))<;>(conv=>whnf)))
     have h5:=hp.tail.tail.perm (List.perm_append_singleton _ _).symm
     refine lp_next (y,true,n,⟨A3,c3,r.l++ [⟨⟨zk,zb,zh,n,zx⟩,place,t.fee⟩]⟩) (by show (if true=true then 4294967297 - y.toNat else 0) < (if true=true then 4294967297 - x.toNat else 0);rw [if_pos rfl,if_pos rfl];omega) (by (repeat' (first|exact trivial|(refine ⟨rfl,?_⟩)))) ⟨by show (r.l++ [(⟨⟨zk,zb,zh,n,zx⟩,place,t.fee⟩:Stp)]).length≤20;omega,fun _=>(by show (r.l++ [(⟨⟨zk,zb,zh,n,zx⟩,place,t.fee⟩:Stp)]).length≤tierAt _ y.toNat _ _;rw [g3,←hnt2];exact hlen),⟨f,by show _≤f+y.toNat;omega,by show _++(if true=true then _ else [])=T;rw [if_pos rfl];exact hT⟩,?_⟩
     show Hp N0 w0 w (_::_::(r.l++ [(⟨⟨zk,zb,zh,n,zx⟩,place,t.fee⟩:Stp)]).map fun x=>stxR x.sub)
     rw [List.map_append]
     exact h5
end Go.Proofs.YteabebmlclgakaaGreat
