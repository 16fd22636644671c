/- MPlanQuiet18: Stab3, Grow. -/
import Derived.Test.YteabebmlclgakaaGreatMPlanQuietsStab2
import Derived.Test.YteabebmlclgakaaGreatMPlanQuiet16
import Derived.Test.YteabebmlclgakaaGreatMPlanQuiet11
import Derived.Lib.AppendZeros
set_option linter.unusedSimpArgs false
set_option linter.unusedVariables false
/- Stab3: slices.SortStableFunc at plan's steps: blocks sorted by insertion, merged two by two. Of own rows of at most a million. -/
namespace Go.Proofs.YteabebmlclgakaaGreat
open Go.RowKit
set_option maxRecDepth 100000
set_option maxHeartbeats 4000000
theorem ins0_any {w0:World} (A:Option Addr) (c:Nat):Calls Tryz.prog 263 #[.slice A 0 c,i64 0,i64 0,cmpV] w0 fun e w'=>e= .returned (.tuple #[])∧Chg N0 w0 w':=by
 have hp:=Hp.start (S:=N0) w0
 refine calls_x (args:= [_,_,_,_]) tabOk Tryz.func263 Tryz.ntmps263 Tryz.results263 rfl (Nat.le_of_ble_eq_true rfl) ?_
 ((conv=>whnf);repeat' (((with_reducible refine ar_id ?_);((refine ar_n (1) (by omega) (by omega) ?_)))<;>(conv=>whnf)))
 refine lp_inv (α:=Unit) (fun x=> [(1,i64 0),(2,i64 0),(8,i64 1)]) (fun x w=>Hp N0 w0 w []) (fun _=>0) () (by (repeat' (first|exact trivial|(refine ⟨rfl,?_⟩)))) hp ?_
 clear hp
 rintro _ e0 w hp
 ((conv=>whnf);repeat' (((with_reducible refine br_id ?_);((with_reducible refine br_dec (fun hx=>?_) (fun hx=>?_))<;>(try (exfalso;first|omega|contradiction))))<;>(conv=>whnf)))
 exact ps_val (v':= .tuple #[]) rfl ⟨rfl,hp.chg⟩
theorem stable0_any {w0:World} (A:Option Addr) (c:Nat):Calls Tryz.prog 240 #[.slice A 0 c,i64 0,cmpV] w0 fun e w'=>e= .returned (.tuple #[])∧Chg N0 w0 w':=by
 have hp:=Hp.start (S:=N0) w0
 refine calls_x (args:= [_,_,_]) tabOk Tryz.func240 Tryz.ntmps240 Tryz.results240 rfl (Nat.le_of_ble_eq_true rfl) ?_
 ((conv=>whnf);repeat' ((first|((with_reducible refine br_id ?_);first|(with_reducible refine br_t ?_)|(with_reducible refine br_f ?_)|(with_reducible refine br_not ?_)|((with_reducible refine br_dec (fun hx=>?_) (fun hx=>?_))<;>(try (exfalso;first|omega|contradiction)))|((with_reducible refine br_eq (fun hx=>?_) (fun hx=>?_))<;>(try (exfalso;first|omega|contradiction)))|((with_reducible refine br_ne (fun hx=>?_) (fun hx=>?_))<;>(try (exfalso;first|omega|contradiction)))|((with_reducible refine br_s (fun hx=>?_) (fun hx=>?_))<;>(try (exfalso;first|omega|contradiction))))|((with_reducible refine ar_id ?_);first|(refine ar_i64 (by omega) ?_)|(refine ar_u32 (by omega) ?_)|(refine ar_u64 (by omega) ?_)|(refine ar_u8 (by omega) ?_))|((with_reducible refine cn_id ?_);first|(refine cn rfl ?_)|(refine cn ‹_› ?_)|(refine cn (by omega) ?_)|(refine cn (Chg.refl _ _) ?_))|((with_reducible refine ld_id ?_);first|(apply ld_hs hp;(focus repeat' constructor);exact rfl)|(refine ld_of ‹_› ?_))|((with_reducible refine ldn_id ?_);first|(apply lda_hs hp;(focus repeat' constructor);exact rfl)|(apply ldn_hs hp;(focus repeat' constructor);exact rfl;exact rfl))|((with_reducible refine al_id ?_);(refine al_cel hp ?_;clear hp;intro bb w hp))|((with_reducible refine st_id ?_);first|(apply sta_hs hp;(focus repeat' constructor);exact rfl;exact rfl;clear hp;intro w hp;(try dsimp only [List.set] at hp))|(apply st_hs hp;(focus repeat' constructor);exact rfl;exact rfl;clear hp;intro w hp;(try dsimp only [List.set] at hp)))|((with_reducible refine gen_id ?_);first|(apply gen_build;exact rfl;exact rfl)|(apply gen_len;exact rfl;exact rfl;assumption)|(apply gen_min;exact rfl;exact rfl;exact rfl)|(apply gen_max;exact rfl;exact rfl;exact rfl)|(apply gen_ix;exact rfl;exact rfl;exact rfl;exact rfl;omega)|(apply gen_ixa;exact rfl;exact rfl;exact rfl;exact rfl;omega))|((with_reducible refine dr_id ?_);first|(refine dr_auto tabOk (by kernel_rfl) (by decide+kernel) ?_;(try replace hp:=hp.drew))|(refine dr_autog tabOk (by kernel_rfl) (by decide+kernel) ?_;(try replace hp:=hp.drew))|(refine dr_autot tabOk (by kernel_rfl) (by decide+kernel) ?_;(try replace hp:=hp.drew)))|((with_reducible refine fk_id ?_);(refine fk_mk ?_ ?_))|((with_reducible refine rd_id ?_);first|(apply rd_len;exact rfl;exact rfl;assumption)|(apply rd_ix;exact rfl;exact rfl;exact rfl;exact rfl;omega)))<;>(conv=>whnf)))
 refine lp_inv (α:=Unit) (fun x=> [(0, .slice A 0 c),(1,i64 0),(2,cmpV),(6,i64 20),(7,i64 0),(8,i64 20)]) (fun x w=>Hp N0 w0 w []) (fun _=>0) () (by (repeat' (first|exact trivial|(refine ⟨rfl,?_⟩)))) hp ?_
 clear hp
 rintro _ e0 w hp
 ((conv=>whnf);repeat' ((first|((with_reducible refine br_id ?_);((with_reducible refine br_dec (fun hx=>?_) (fun hx=>?_))<;>(try (exfalso;first|omega|contradiction))))|((with_reducible refine cl_id ?_);((refine cl_eq ((ins0_any _ _)) rfl rfl ?_;rintro e w ⟨rfl,hcc⟩;replace hp:=hp.call0 hcc;refine ⟨_,rfl,?_⟩))))<;>(conv=>whnf)))
 refine lp_inv (α:=Unit) (fun x=> [(0, .slice A 0 c),(1,i64 0),(2,cmpV),(6,i64 20)]) (fun x w=>Hp N0 w0 w []) (fun _=>0) () (by (repeat' (first|exact trivial|(refine ⟨rfl,?_⟩)))) hp ?_
 clear hp
 rintro _ e0 w hp
 ((conv=>whnf);repeat' (((with_reducible refine br_id ?_);((with_reducible refine br_dec (fun hx=>?_) (fun hx=>?_))<;>(try (exfalso;first|omega|contradiction))))<;>(conv=>whnf)))
 exact ps_val (v':= .tuple #[]) rfl ⟨rfl,hp.chg⟩
theorem stable_any {w0:World} {g c N:Nat} {l:List Stp} (h:(stR (some ⟨g,0,none⟩) c l).ok w0) (hN:l.length=N) (hn:N≤1000000):Calls Tryz.prog 240 #[.slice (some ⟨g,0,none⟩) N c,i64 N,cmpV] w0 fun e w'=>e= .returned (.tuple #[])∧∃l':List Stp,l'.Perm l∧Srt cmpS l'∧Mut (stR (some ⟨g,0,none⟩) c l) (stR (some ⟨g,0,none⟩) c l') w0 w':=by
 have hp:=Hp.one h
 have us:=Tryz.underlying141
 obtain ⟨W0,hW0⟩:∃W0,(stR (some ⟨g,0,none⟩) c l).dom=W0:=⟨_,rfl⟩
 rw [hW0] at hp
 refine calls_x (args:= [_,_,_]) tabOk Tryz.func240 Tryz.ntmps240 Tryz.results240 rfl (Nat.le_of_ble_eq_true rfl) ?_
 ((conv=>whnf);repeat' ((first|((with_reducible refine br_id ?_);first|(with_reducible refine br_t ?_)|(with_reducible refine br_f ?_)|(with_reducible refine br_not ?_)|((with_reducible refine br_dec (fun hx=>?_) (fun hx=>?_))<;>(try (exfalso;first|omega|contradiction)))|((with_reducible refine br_eq (fun hx=>?_) (fun hx=>?_))<;>(try (exfalso;first|omega|contradiction)))|((with_reducible refine br_ne (fun hx=>?_) (fun hx=>?_))<;>(try (exfalso;first|omega|contradiction)))|((with_reducible refine br_s (fun hx=>?_) (fun hx=>?_))<;>(try (exfalso;first|omega|contradiction))))|((with_reducible refine ar_id ?_);first|(refine ar_i64 (by omega) ?_)|(refine ar_u32 (by omega) ?_)|(refine ar_u64 (by omega) ?_)|(refine ar_u8 (by omega) ?_))|((with_reducible refine cn_id ?_);first|(refine cn rfl ?_)|(refine cn ‹_› ?_)|(refine cn (by omega) ?_)|(refine cn (Chg.refl _ _) ?_))|((with_reducible refine ld_id ?_);first|(apply ld_hs hp;(focus repeat' constructor);exact rfl)|(refine ld_of ‹_› ?_))|((with_reducible refine ldn_id ?_);first|(apply lda_hs hp;(focus repeat' constructor);exact rfl)|(apply ldn_hs hp;(focus repeat' constructor);exact rfl;exact rfl))|((with_reducible refine al_id ?_);(refine al_cel hp ?_;clear hp;intro bb w hp))|((with_reducible refine st_id ?_);first|(apply sta_hs hp;(focus repeat' constructor);exact rfl;exact rfl;clear hp;intro w hp;(try dsimp only [List.set] at hp))|(apply st_hs hp;(focus repeat' constructor);exact rfl;exact rfl;clear hp;intro w hp;(try dsimp only [List.set] at hp)))|((with_reducible refine gen_id ?_);first|(apply gen_build;exact rfl;exact rfl)|(apply gen_len;exact rfl;exact rfl;assumption)|(apply gen_min;exact rfl;exact rfl;exact rfl)|(apply gen_max;exact rfl;exact rfl;exact rfl)|(apply gen_ix;exact rfl;exact rfl;exact rfl;exact rfl;omega)|(apply gen_ixa;exact rfl;exact rfl;exact rfl;exact rfl;omega))|((with_reducible refine dr_id ?_);first|(refine dr_auto tabOk (by kernel_rfl) (by decide+kernel) ?_;(try replace hp:=hp.drew))|(refine dr_autog tabOk (by kernel_rfl) (by decide+kernel) ?_;(try replace hp:=hp.drew))|(refine dr_autot tabOk (by kernel_rfl) (by decide+kernel) ?_;(try replace hp:=hp.drew)))|((with_reducible refine fk_id ?_);(refine fk_mk ?_ ?_))|((with_reducible refine rd_id ?_);first|(apply rd_len;exact rfl;exact rfl;assumption)|(apply rd_ix;exact rfl;exact rfl;exact rfl;exact rfl;omega)))<;>(conv=>whnf)))
 refine lp_inv (α:=List Stp×List Stp) (fun x=> [(0, .slice (some ⟨g,0,none⟩) N c),(1,i64 N),(2,cmpV),(6,i64 20),(7,i64 x.1.length),(8,i64 (x.1.length+20:Nat))]) (fun x w=>Ful cmpS 20 x.1∧(x.1++x.2).Perm l∧Hp W0 w0 w [stR (some ⟨g,0,none⟩) c (x.1++x.2)]) (fun x=>x.2.length) ([],l) (by (repeat' (first|exact trivial|(refine ⟨rfl,?_⟩)))) ⟨.nil, .refl _,hp⟩ ?_
 clear hp
 rintro ⟨D,R⟩ e0 w ⟨hF,hP,hp⟩
 dsimp only at hF hP hp ⊢
 have hPl:=hP.length_eq
 rw [List.length_append] at hPl
 obtain ⟨a,ha⟩:∃a,D.length=a:=⟨_,rfl⟩
 rw [ha]
 rcases Nat.lt_or_ge N (a+20) with hlt|hge
 ·rw [←List.append_nil R] at hp
  ((conv=>whnf);repeat' (((with_reducible refine br_id ?_);((with_reducible refine br_dec (fun hx=>?_) (fun hx=>?_))<;>(try (exfalso;first|omega|contradiction))))<;>(conv=>whnf)))
  refine cl_eq (ins_any (a:=a) (b:=N) (N:=N) (hp.get (j:=0) rfl) ha (by omega) (by rw [List.length_nil];omega) hn) rfl rfl ?_
  rintro e w ⟨rfl,X',p1,s1,hm⟩
  replace hp:=hp.via (j:=0) rfl hm
  clear hm
  dsimp only [List.set] at hp
  rw [List.append_nil] at hp
  refine ⟨_,rfl,?_⟩
  ((conv=>whnf);repeat' ((first|((with_reducible refine br_id ?_);first|(with_reducible refine br_t ?_)|(with_reducible refine br_f ?_)|(with_reducible refine br_not ?_)|((with_reducible refine br_dec (fun hx=>?_) (fun hx=>?_))<;>(try (exfalso;first|omega|contradiction)))|((with_reducible refine br_eq (fun hx=>?_) (fun hx=>?_))<;>(try (exfalso;first|omega|contradiction)))|((with_reducible refine br_ne (fun hx=>?_) (fun hx=>?_))<;>(try (exfalso;first|omega|contradiction)))|((with_reducible refine br_s (fun hx=>?_) (fun hx=>?_))<;>(try (exfalso;first|omega|contradiction))))|((with_reducible refine ar_id ?_);first|(refine ar_i64 (by omega) ?_)|(refine ar_u32 (by omega) ?_)|(refine ar_u64 (by omega) ?_)|(refine ar_u8 (by omega) ?_))|((with_reducible refine cn_id ?_);first|(refine cn rfl ?_)|(refine cn ‹_› ?_)|(refine cn (by omega) ?_)|(refine cn (Chg.refl _ _) ?_))|((with_reducible refine ld_id ?_);first|(apply ld_hs hp;(focus repeat' constructor);exact rfl)|(refine ld_of ‹_› ?_))|((with_reducible refine ldn_id ?_);first|(apply lda_hs hp;(focus repeat' constructor);exact rfl)|(apply ldn_hs hp;(focus repeat' constructor);exact rfl;exact rfl))|((with_reducible refine al_id ?_);(refine al_cel hp ?_;clear hp;intro bb w hp))|((with_reducible refine st_id ?_);first|(apply sta_hs hp;(focus repeat' constructor);exact rfl;exact rfl;clear hp;intro w hp;(try dsimp only [List.set] at hp))|(apply st_hs hp;(focus repeat' constructor);exact rfl;exact rfl;clear hp;intro w hp;(try dsimp only [List.set] at hp)))|((with_reducible refine gen_id ?_);first|(apply gen_build;exact rfl;exact rfl)|(apply gen_len;exact rfl;exact rfl;assumption)|(apply gen_min;exact rfl;exact rfl;exact rfl)|(apply gen_max;exact rfl;exact rfl;exact rfl)|(apply gen_ix;exact rfl;exact rfl;exact rfl;exact rfl;omega)|(apply gen_ixa;exact rfl;exact rfl;exact rfl;exact rfl;omega))|((with_reducible refine dr_id ?_);first|(refine dr_auto tabOk (by kernel_rfl) (by decide+kernel) ?_;(try replace hp:=hp.drew))|(refine dr_autog tabOk (by kernel_rfl) (by decide+kernel) ?_;(try replace hp:=hp.drew))|(refine dr_autot tabOk (by kernel_rfl) (by decide+kernel) ?_;(try replace hp:=hp.drew)))|((with_reducible refine fk_id ?_);(refine fk_mk ?_ ?_))|((with_reducible refine rd_id ?_);first|(apply rd_len;exact rfl;exact rfl;assumption)|(apply rd_ix;exact rfl;exact rfl;exact rfl;exact rfl;omega)))<;>(conv=>whnf)))
  refine lp_inv (α:=Nat×List Stp) (fun x=> [(0, .slice (some ⟨g,0,none⟩) N c),(1,i64 N),(2,cmpV),(6,i64 x.1)]) (fun x w=>1≤x.1∧Chk cmpS x.1 x.2∧x.2.Perm l∧Hp W0 w0 w [stR (some ⟨g,0,none⟩) c x.2]) (fun x=>N - x.1) (20,D++X') (by (repeat' (first|exact trivial|(refine ⟨rfl,?_⟩)))) ⟨by show 1≤20;omega,hF _ (.last _ (by rw [p1.length_eq];omega) s1),(List.Perm.append_left D p1).trans hP,hp⟩ ?_
  clear hp hP hF hPl ha p1 s1 hlt
  rintro ⟨bs,l2⟩ e0 w ⟨hbs,hC,hP,hp⟩
  dsimp only at hbs hC hP hp ⊢
  have hPl:=hP.length_eq
  rcases Nat.lt_or_ge bs N with hlt|hge
  ·((conv=>whnf);repeat' ((first|((with_reducible refine br_id ?_);((with_reducible refine br_dec (fun hx=>?_) (fun hx=>?_))<;>(try (exfalso;first|omega|contradiction))))|((with_reducible refine ar_id ?_);((refine ar_n (2*bs) (by omega) (by omega) ?_))))<;>(conv=>whnf)))
   refine lp_inv (α:=List Stp×List Stp) (fun x=> [(0, .slice (some ⟨g,0,none⟩) N c),(1,i64 N),(2,cmpV),(6,i64 bs),(7,i64 x.1.length),(8,i64 (x.1.length+2*bs:Nat))]) (fun x w=>Ful cmpS (2*bs) x.1∧Chk cmpS bs x.2∧(x.1++x.2).Perm l∧Hp W0 w0 w [stR (some ⟨g,0,none⟩) c (x.1++x.2)]) (fun x=>x.2.length) ([],l2) (by rw [show ([]:List Stp).length+2*bs=2*bs by rw [List.length_nil,Nat.zero_add]];(repeat' (first|exact trivial|(refine ⟨rfl,?_⟩)))) ⟨.nil,hC,hP,hp⟩ ?_
   clear hp hC hP hPl
   rintro ⟨D,R⟩ e0 w ⟨hF,hC,hP,hp⟩
   dsimp only at hF hC hP hp ⊢
   have hPl:=hP.length_eq
   rw [List.length_append] at hPl
   obtain ⟨a,ha⟩:∃a,D.length=a:=⟨_,rfl⟩
   rw [ha]
   rcases Nat.lt_or_ge N (a+2*bs) with hl2|hg2
   ·have hend:∀{w:World} {M:List Stp},M.Perm R→Srt cmpS M→Hp W0 w0 w [stR (some ⟨g,0,none⟩) c (D++M)]→1≤bs*2∧Chk cmpS (bs*2) (D++M)∧(D++M).Perm l∧Hp W0 w0 w [stR (some ⟨g,0,none⟩) c (D++M)]:=fun p1 s1 hp=>by
     rw [Nat.mul_comm bs 2]
     exact ⟨by omega,hF _ (.last _ (by rw [p1.length_eq];omega) s1),(List.Perm.append_left D p1).trans hP,hp⟩
    rcases Nat.lt_or_ge (a+bs) N with hl3|hg3
    ·obtain ⟨x,y,rfl,hx1,hx2,hx3⟩:=hC.big (by omega)
     rw [List.length_append] at hPl
     rw [←List.append_nil y] at hp
     ((conv=>whnf);repeat' ((first|((with_reducible refine br_id ?_);((with_reducible refine br_dec (fun hx=>?_) (fun hx=>?_))<;>(try (exfalso;first|omega|contradiction))))|((with_reducible refine ar_id ?_);((refine ar_n (a+bs) (by omega) (by omega) ?_))))<;>(conv=>whnf)))
     refine cl_eq (sym_any _ (Nat.le_refl _) (hp.get (j:=0) rfl) (by omega) (by omega) hx2 (hx3.small (by omega)) ha (m:=a+bs) (b:=N) (N:=N) (by omega) (by omega) (by rw [List.length_nil];omega) hn) rfl rfl ?_
     rintro e w ⟨rfl,M,p1,s1,hm⟩
     replace hp:=hp.via (j:=0) rfl hm
     clear hm
     dsimp only [List.set] at hp
     rw [List.append_nil] at hp
     refine ⟨_,rfl,?_⟩
     ((conv=>whnf);repeat' (((with_reducible refine ar_id ?_);((refine ar_n (bs*2) (by omega) (by omega) ?_)))<;>(conv=>whnf)))
     exact lp_next (bs*2,D++M) (by show N - bs*2 < N - bs;omega) (by (repeat' (first|exact trivial|(refine ⟨rfl,?_⟩)))) (hend p1 s1 hp)
    ·((conv=>whnf);repeat' ((first|((with_reducible refine br_id ?_);((with_reducible refine br_dec (fun hx=>?_) (fun hx=>?_))<;>(try (exfalso;first|omega|contradiction))))|((with_reducible refine ar_id ?_);first|((refine ar_n (a+bs) (by omega) (by omega) ?_))|((refine ar_n (bs*2) (by omega) (by omega) ?_))))<;>(conv=>whnf)))
     exact lp_next (bs*2,D++R) (by show N - bs*2 < N - bs;omega) (by (repeat' (first|exact trivial|(refine ⟨rfl,?_⟩)))) (hend (.refl _) (hC.small (by omega)) hp)
   ·obtain ⟨x,R2,rfl,hx1,hx2,hx3⟩:=hC.big (by omega)
    rw [List.length_append] at hPl
    obtain ⟨y,R3,rfl,hy1,hy2,hy3⟩:=hx3.big (by omega)
    rw [List.length_append] at hPl
    ((conv=>whnf);repeat' ((first|((with_reducible refine br_id ?_);((with_reducible refine br_dec (fun hx=>?_) (fun hx=>?_))<;>(try (exfalso;first|omega|contradiction))))|((with_reducible refine ar_id ?_);((refine ar_n (a+bs) (by omega) (by omega) ?_))))<;>(conv=>whnf)))
    refine cl_eq (sym_any _ (Nat.le_refl _) (hp.get (j:=0) rfl) (by omega) (by omega) hx2 hy2 ha (m:=a+bs) (b:=a+2*bs) (N:=N) (by omega) (by omega) (by omega) hn) rfl rfl ?_
    rintro e w ⟨rfl,M,p1,s1,hm⟩
    replace hp:=hp.via (j:=0) rfl hm
    clear hm
    dsimp only [List.set] at hp
    refine ⟨_,rfl,?_⟩
    have hMl:=p1.length_eq
    rw [List.length_append] at hMl
    rw [←List.append_assoc] at hp
    ((conv=>whnf);repeat' (((with_reducible refine ar_id ?_);first|((refine ar_n (2*bs) (by omega) (by omega) ?_))|((refine ar_n (a+2*bs+2*bs) (by omega) (by omega) ?_)))<;>(conv=>whnf)))
    exact lp_next (D++M,R3) (by show R3.length < (x++(y++R3)).length;simp only [List.length_append];omega) (by rw [show (D++M).length=a+2*bs by rw [List.length_append];omega];(repeat' (first|exact trivial|(refine ⟨rfl,?_⟩)))) ⟨hF.snoc (by omega) s1,hy3,(by refine List.Perm.trans ?_ hP;rw [List.append_assoc];refine List.Perm.append_left D ?_;rw [←List.append_assoc x];exact List.Perm.append_right R3 p1),hp⟩
  ·((conv=>whnf);repeat' (((with_reducible refine br_id ?_);((with_reducible refine br_dec (fun hx=>?_) (fun hx=>?_))<;>(try (exfalso;first|omega|contradiction))))<;>(conv=>whnf)))
   refine ps_val (v':= .tuple #[]) rfl ⟨rfl,l2,hP,hC.small (by omega),?_⟩
   rw [←hW0] at hp
   exact hp.shut1 (j:=0) rfl
 ·obtain ⟨X,R2,rfl,hl⟩:=cut_at (l:=R) (n:=20) (by omega)
  rw [List.length_append] at hPl
  ((conv=>whnf);repeat' (((with_reducible refine br_id ?_);((with_reducible refine br_dec (fun hx=>?_) (fun hx=>?_))<;>(try (exfalso;first|omega|contradiction))))<;>(conv=>whnf)))
  refine cl_eq (ins_any (a:=a) (b:=a+20) (N:=N) (hp.get (j:=0) rfl) ha (by omega) (by omega) hn) rfl rfl ?_
  rintro e w ⟨rfl,X',p1,s1,hm⟩
  replace hp:=hp.via (j:=0) rfl hm
  clear hm
  dsimp only [List.set] at hp
  refine ⟨_,rfl,?_⟩
  have hXl:=p1.length_eq
  rw [←List.append_assoc] at hp
  ((conv=>whnf);repeat' (((with_reducible refine ar_id ?_);((refine ar_n (a+20+20) (by omega) (by omega) ?_)))<;>(conv=>whnf)))
  exact lp_next (D++X',R2) (by show R2.length < (X++R2).length;rw [List.length_append];omega) (by rw [show (D++X').length=a+20 by rw [List.length_append];omega];(repeat' (first|exact trivial|(refine ⟨rfl,?_⟩)))) ⟨hF.snoc (by omega) s1,(by refine List.Perm.trans ?_ hP;rw [List.append_assoc];exact List.Perm.append_left D (List.Perm.append_right R2 p1)),hp⟩
theorem ssf_any {w0:World} {s:Sl Stp} (h:(rowR 144 39 Stp.c s).ok w0) (hn:s.l.length≤1000000):Calls Tryz.prog 211 #[s.v,cmpV] w0 fun e w'=>e= .returned (.tuple #[])∧∃l':List Stp,l'.Perm s.l∧Srt cmpS l'∧Mut (rowR 144 39 Stp.c s) (rowR 144 39 Stp.c ⟨s.A,s.c,l'⟩) w0 w':=by
 by_cases h0:s.l.length=0
 ·obtain ⟨A,c,l⟩:=s
  have hl:l= []:=List.eq_nil_of_length_eq_zero h0
  subst hl
  have hp:=Hp.one h
  have us:=Tryz.underlying141
  refine calls_x (args:= [_,_]) tabOk Tryz.func211 Tryz.ntmps211 Tryz.results211 rfl (Nat.le_of_ble_eq_true rfl) ?_
  ((conv=>whnf);repeat' ((first|((with_reducible refine gen_id ?_);(apply gen_len;exact rfl;exact rfl;assumption))|((with_reducible refine cl_id ?_);((refine cl_eq ((stable0_any _ _)) rfl rfl ?_;rintro e w ⟨rfl,hcc⟩;replace hp:=hp.call0 hcc;refine ⟨_,rfl,?_⟩))))<;>(conv=>whnf)))
  exact ps_val (v':= .tuple #[]) rfl ⟨rfl, [], .refl _, .nil,hp.shut1 (j:=0) rfl⟩
 ·obtain ⟨g,hg⟩:∃g,s.A=some ⟨g,0,none⟩:=by
   rcases (rowR_ok.1 h).1.2 with ⟨_,h4⟩|⟨g,cap,cur,h3,_⟩
   ·omega
   ·injection h3 with h3
    exact ⟨g,h3⟩
  obtain ⟨A,c,l⟩:=s
  dsimp only at hg h0 hn
  subst hg
  have hp:=Hp.one h
  have us:=Tryz.underlying141
  refine calls_x (args:= [_,_]) tabOk Tryz.func211 Tryz.ntmps211 Tryz.results211 rfl (Nat.le_of_ble_eq_true rfl) ?_
  ((conv=>whnf);repeat' (((with_reducible refine gen_id ?_);(apply gen_len;exact rfl;exact rfl;assumption))<;>(conv=>whnf)))
  refine cl_eq (stable_any (hp.get (j:=0) rfl) rfl hn) rfl rfl ?_
  rintro e w ⟨rfl,l',p1,s1,hmt⟩
  replace hp:=hp.via (j:=0) rfl hmt
  dsimp only [List.set] at hp
  refine ⟨_,rfl,?_⟩
  ((conv=>whnf);repeat' ((first|((with_reducible refine br_id ?_);first|(with_reducible refine br_t ?_)|(with_reducible refine br_f ?_)|(with_reducible refine br_not ?_)|((with_reducible refine br_dec (fun hx=>?_) (fun hx=>?_))<;>(try (exfalso;first|omega|contradiction)))|((with_reducible refine br_eq (fun hx=>?_) (fun hx=>?_))<;>(try (exfalso;first|omega|contradiction)))|((with_reducible refine br_ne (fun hx=>?_) (fun hx=>?_))<;>(try (exfalso;first|omega|contradiction)))|((with_reducible refine br_s (fun hx=>?_) (fun hx=>?_))<;>(try (exfalso;first|omega|contradiction))))|((with_reducible refine ar_id ?_);first|(refine ar_i64 (by omega) ?_)|(refine ar_u32 (by omega) ?_)|(refine ar_u64 (by omega) ?_)|(refine ar_u8 (by omega) ?_))|((with_reducible refine cn_id ?_);first|(refine cn rfl ?_)|(refine cn ‹_› ?_)|(refine cn (by omega) ?_)|(refine cn (Chg.refl _ _) ?_))|((with_reducible refine ld_id ?_);first|(apply ld_hs hp;(focus repeat' constructor);exact rfl)|(refine ld_of ‹_› ?_))|((with_reducible refine ldn_id ?_);first|(apply lda_hs hp;(focus repeat' constructor);exact rfl)|(apply ldn_hs hp;(focus repeat' constructor);exact rfl;exact rfl))|((with_reducible refine al_id ?_);(refine al_cel hp ?_;clear hp;intro bb w hp))|((with_reducible refine st_id ?_);first|(apply sta_hs hp;(focus repeat' constructor);exact rfl;exact rfl;clear hp;intro w hp;(try dsimp only [List.set] at hp))|(apply st_hs hp;(focus repeat' constructor);exact rfl;exact rfl;clear hp;intro w hp;(try dsimp only [List.set] at hp)))|((with_reducible refine gen_id ?_);first|(apply gen_build;exact rfl;exact rfl)|(apply gen_len;exact rfl;exact rfl;assumption)|(apply gen_min;exact rfl;exact rfl;exact rfl)|(apply gen_max;exact rfl;exact rfl;exact rfl)|(apply gen_ix;exact rfl;exact rfl;exact rfl;exact rfl;omega)|(apply gen_ixa;exact rfl;exact rfl;exact rfl;exact rfl;omega))|((with_reducible refine dr_id ?_);first|(refine dr_auto tabOk (by kernel_rfl) (by decide+kernel) ?_;(try replace hp:=hp.drew))|(refine dr_autog tabOk (by kernel_rfl) (by decide+kernel) ?_;(try replace hp:=hp.drew))|(refine dr_autot tabOk (by kernel_rfl) (by decide+kernel) ?_;(try replace hp:=hp.drew)))|((with_reducible refine fk_id ?_);(refine fk_mk ?_ ?_))|((with_reducible refine rd_id ?_);first|(apply rd_len;exact rfl;exact rfl;assumption)|(apply rd_ix;exact rfl;exact rfl;exact rfl;exact rfl;omega)))<;>(conv=>whnf)))
  exact ps_val (v':= .tuple #[]) rfl ⟨rfl,l',p1,s1,hp.shut1 (j:=0) rfl⟩
end Go.Proofs.YteabebmlclgakaaGreat
/- Grow: slices.Grow and Concat at plan's steps; parts of slices by lengths; a row cleared. Of lists of at most a million in all. -/
namespace Go.Proofs.YteabebmlclgakaaGreat
open Go.RowKit
set_option maxRecDepth 100000
set_option maxHeartbeats 4000000
section
variable {α : Type} {P : Program} {w : World} {ρ : Operand → Value} {o : Oper} {g : Value → World → Prop} {S : Nat → Prop} {w0 : World} {rs : List Res} {enc : α → List Value} {t e tn : TypeId} {sz bytes : Nat}
theorem zeroCells_size (z:Array Value) (m:Nat):(Builtin.zeroCells z m).size=m*z.size:=by
 simp only [Builtin.zeroCells,Array.size_map,Array.size_range]
theorem gen_appz {x y:Operand} (hop:o.op= .call {callee:= .builtin .append,args:= #[x,y],argTypes:= #[t,tn]}) (h:Hp S w0 w rs) (hE:ElT P t e sz bytes) (htn:P.underlying tn=some (.int .i64)) (hx:ρ x= .slice none 0 0) (n:Nat) (hy:ρ y= .int .i64 n) (h0:0 < n) (hn:n≤maxLen) (hb:n*bytes≤140737488355328)
  (hk:∀b c w',Hp S w0 w' (rowR e sz enc ⟨some ⟨b,0,none⟩,c, []⟩::rs)→n≤c→g (.slice (some ⟨b,0,none⟩) n c) w'):Gen P ρ o w g:=by
 obtain ⟨ht,i,z,hi,hz,hs,hby,hzs,hsz⟩:=hE
 have hn2:n≤9223372036854775807:=by simp only [maxLen] at hn;omega
 have hrun:=Go.Lib.run_append_nil_zeros (P:=P) w t tn o.type e i z .i64 .i64 ht htn hi hz n h0 (by omega) (by omega) (by rw [hby];omega)
 refine gen_v (v:= .slice (some ⟨w.heap.size,0,none⟩) n (grownCap w n 0 e)) (w':=w.drew.alloc (.cells (Builtin.zeroCells z.cells n++Builtin.zeroCells z.cells (grownCap w n 0 e - n)) e)) (by simp only [execOp,hop,resolve,invoke,builtin,Sem.run_bind,Sem.run_pure,Result.andThen_ok,List.map_toArray,List.map_cons,List.map_nil,hx,hy,hrun]) (hk _ _ _ ?_ (grownCap_ge w n 0 e))
 have hcap:=grownCap_le_maxLen w n 0 e hn
 have hge:=grownCap_ge w n 0 e
 have hcs:(Builtin.zeroCells z.cells n++Builtin.zeroCells z.cells (grownCap w n 0 e - n)).size=grownCap w n 0 e*sz:=by
  rw [Array.size_append,zeroCells_size,zeroCells_size,hzs,←Nat.add_mul,Nat.add_sub_cancel' hge]
 refine h.new (r:=rowR e sz enc ⟨some ⟨w.heap.size,0,none⟩,grownCap w n 0 e, []⟩) ((Chg.refl N0 w).drew.alloc _) (rowR_ok.2 ⟨⟨by simp, .inr ⟨w.heap.size,grownCap w n 0 e,_,rfl,Nat.zero_le _,heap_alloc_new w.drew _,Nat.zero_le _,hcap,hcs,by simp⟩⟩,fun _ h=>by cases h⟩) fun b hb=>?_
 have h1:=rowR_dom.1 hb
 cases h1
 exact Nat.le_refl _
theorem gen_cap {x:Operand} (hop:o.op= .call {callee:= .builtin .cap,args:= #[x],argTypes:= #[t]}) {A:Option Addr} {n c:Nat} (hx:ρ x= .slice A n c) (ht:P.underlying t=some (.slice e)) (hk:g (.int .i64 c) w):Gen P ρ o w g:=
 gen_v (by simp [execOp,hop,resolve,invoke,builtin,Builtin.cap_,hx,run_underlying ht,goInt]) hk
theorem gen_cutz {x hi:Operand} (hop:o.op= .slice t x none (some hi) none) (hE:ElT P t e sz bytes) (hx:ρ x= .slice none 0 0) {k:IntKind} (hh:ρ hi= .int k 0) (hk:g (.slice none 0 0) w):Gen P ρ o w g:=by
 obtain ⟨ht,i,z,hi',_,hs,_⟩:=hE
 exact gen_v (run_cut hop ht ⟨i,hi',hs⟩ (Sl.nil:Sl Unit) hx (Nat.le_refl _) (l:=0) (h:=0) rfl ⟨k,hh⟩ (Nat.le_refl _) (Nat.le_refl _)) hk
theorem gen_front {x hi:Operand} (hop:o.op= .slice t x none (some hi) none) (hE:ElT P t e sz bytes) {b n c:Nat} (hx:ρ x= .slice (some ⟨b,0,none⟩) n c) (hc:n≤c) {k:IntKind} {m:Int} (hh:ρ hi= .int k m) (h:Nat) (hm:m=h) (h2:h≤n) (hk:g (.slice (some ⟨b,0,none⟩) h c) w):Gen P ρ o w g:=by
 obtain ⟨ht,i,z,hi',_,hs,_⟩:=hE
 subst hm
 have h3:=run_cut (w:=w) hop ht ⟨i,hi',hs⟩ (⟨some ⟨b,0,none⟩,c,List.replicate n ()⟩:Sl Unit) (by rw [hx,Sl.v,List.length_replicate]) (by rw [List.length_replicate];exact hc) (l:=0) (h:=h) rfl ⟨k,hh⟩ (Nat.zero_le _) (by rw [List.length_replicate];exact h2)
 have h4:(Sl.cut (⟨some ⟨b,0,none⟩,c,List.replicate n ()⟩:Sl Unit) sz 0 h).v= .slice (some ⟨b,0,none⟩) h c:=by
  rw [Sl.v,Sl.cut_len (by rw [List.length_replicate];exact h2)]
  unfold Sl.cut
  simp only [Nat.zero_mul,Nat.sub_zero,Option.map_some,add_plain,Nat.add_zero,ite_self]
 rw [h4] at h3
 exact gen_v h3 hk
theorem gen_rest {x lo:Operand} (hop:o.op= .slice t x (some lo) none none) (hE:ElT P t e sz bytes) {b n c:Nat} (hx:ρ x= .slice (some ⟨b,0,none⟩) n c) (hc:n≤c) {k:IntKind} {m:Int} (hl:ρ lo= .int k m) (l:Nat) (hm:m=l) (h2:l≤n) (hk:∀off,off≤l*sz→g (.slice (some ⟨b,off,none⟩) (n - l) (c - l)) w):Gen P ρ o w g:=by
 obtain ⟨ht,i,z,hi',_,hs,_⟩:=hE
 subst hm
 have h3:=run_cut (w:=w) hop ht ⟨i,hi',hs⟩ (⟨some ⟨b,0,none⟩,c,List.replicate n ()⟩:Sl Unit) (by rw [hx,Sl.v,List.length_replicate]) (by rw [List.length_replicate];exact hc) (l:=l) (h:=n) ⟨k,hl⟩ (by rw [List.length_replicate]) h2 (by rw [List.length_replicate];exact Nat.le_refl _)
 by_cases hcl:c=l
 ·have h4:(Sl.cut (⟨some ⟨b,0,none⟩,c,List.replicate n ()⟩:Sl Unit) sz l n).v= .slice (some ⟨b,0,none⟩) (n - l) (c - l):=by
   rw [Sl.v,Sl.cut_len (by rw [List.length_replicate];exact Nat.le_refl _)]
   unfold Sl.cut
   rw [if_pos hcl]
  rw [h4] at h3
  exact gen_v h3 (hk 0 (Nat.zero_le _))
 ·have h4:(Sl.cut (⟨some ⟨b,0,none⟩,c,List.replicate n ()⟩:Sl Unit) sz l n).v= .slice (some ⟨b,l*sz,none⟩) (n - l) (c - l):=by
   rw [Sl.v,Sl.cut_len (by rw [List.length_replicate];exact Nat.le_refl _)]
   unfold Sl.cut
   rw [if_neg hcl]
   simp only [Option.map_some,add_plain,Nat.zero_add]
  rw [h4] at h3
  exact gen_v h3 (hk _ (Nat.le_refl _))
theorem gen_clear {x:Operand} (hop:o.op= .call {callee:= .builtin .clear,args:= #[x],argTypes:= #[t]}) (ht:P.underlying t=some (.slice e)) {i:TypeInfo} {z:Value} (hi:P.info? e=some i) (hz:i.zero=some z) (h1:∀v∈z.cells,v.oneCell'=true) {b off n c:Nat} (hx:ρ x= .slice (some ⟨b,off,none⟩) n c) {cur:Array Value} {te:TypeId} (hb:w.heap[b]? =some (.cells cur te (0,0))) (hs:off+n*z.cells.size≤cur.size)
  (hk:∀w',Chg (fun k=>k=b) w w'→g (.tuple #[]) w'):Gen P ρ o w g:=by
 cases n with
 |zero=>
  refine gen_v (v:= .tuple #[]) (w':=w) ?_ (hk w (Chg.refl _ _))
  simp [execOp,hop,resolve,invoke,builtin,Builtin.clear_,hx,run_underlying ht]
 |succ n=>
  have hvs:∀v∈(Builtin.zeroCells z.cells (n+1)).toList,v.oneCell'=true:=fun v hv=>by
   rw [Array.mem_toList_iff] at hv
   unfold Builtin.zeroCells at hv
   obtain ⟨k,hk1,rfl⟩:=Array.mem_map.1 hv
   have hk2:=Array.mem_range.1 hk1
   have hpos:0 < z.cells.size:=Nat.pos_of_ne_zero fun h0=>by rw [h0,Nat.mul_zero] at hk2;omega
   have hlt:k % z.cells.size < z.cells.size:=Nat.mod_lt _ hpos
   rw [getElem!_pos z.cells _ hlt]
   exact h1 _ (Array.getElem_mem hlt)
  have hlen:(Builtin.zeroCells z.cells (n+1)).toList.length=(n+1)*z.cells.size:=by rw [Array.length_toList,zeroCells_size]
  have hst:=run_storeCells (P:=P) ⟨b,off,none⟩ (Builtin.zeroCells z.cells (n+1)).toList 0 w hvs fun j hj=>by
   rw [hlen] at hj
   rw [add_plain,Nat.zero_add]
   have hjl:off+j < cur.size:=by omega
   refine ⟨?_,by simp [World.frozen?,hb]⟩
   simp only [World.cell?,hb]
   rw [Array.getElem?_eq_getElem hjl]
   rfl
  have hzv:(zeroValue e).run P w= .ok z w:=by simp [zeroValue,typeInfo,hi,hz]
  refine gen_v (v:= .tuple #[]) (w':=setCs w ⟨b,off,none⟩ (Builtin.zeroCells z.cells (n+1)).toList 0) ?_ (hk _ (setCs_heap _ 0 off w cur hb).2)
  simp [execOp,hop,resolve,invoke,builtin,Builtin.clear_,hx,run_underlying ht,hzv,hst]
end
abbrev slL (s:Sl Stp):List Value:= [s.v]
theorem el_sls:ElT Tryz.prog 226 141 1 24:=elt_of (z:= .slice none 0 0) Tryz.underlying226 (by kernel_rfl) rfl (by omega)
theorem grow_any {w0:World} (n:Nat) (hn:n≤1000000):Calls Tryz.prog 239 #[.slice none 0 0,i64 n] w0 fun e w'=>∃A c,e= .returned (.slice A 0 c)∧Made (stR A c []) w0 w':=by
 have hp:=Hp.start (S:=N0) w0
 have us:=Tryz.underlying141
 have ui:=Tryz.underlying3
 rcases Nat.eq_zero_or_pos n with h0|h0
 ·subst h0
  refine calls_x (args:= [_,_]) tabOk Tryz.func239 Tryz.ntmps239 Tryz.results239 rfl (Nat.le_of_ble_eq_true rfl) ?_
  ((conv=>whnf);repeat' ((first|((with_reducible refine br_id ?_);((with_reducible refine br_dec (fun hx=>?_) (fun hx=>?_))<;>(try (exfalso;first|omega|contradiction))))|((with_reducible refine ar_id ?_);((refine ar_n (0) (by omega) (by omega) ?_)))|((with_reducible refine gen_id ?_);first|((refine gen_cap rfl rfl us ?_))|(apply gen_len;exact rfl;exact rfl;assumption)))<;>(conv=>whnf)))
  exact ps_val (v':= .slice none 0 0) rfl ⟨none,0,rfl,(hp.nilRow 144 39 Stp.c).made1 (j:=0) rfl⟩
 ·refine calls_x (args:= [_,_]) tabOk Tryz.func239 Tryz.ntmps239 Tryz.results239 rfl (Nat.le_of_ble_eq_true rfl) ?_
  ((conv=>whnf);repeat' ((first|((with_reducible refine br_id ?_);((with_reducible refine br_dec (fun hx=>?_) (fun hx=>?_))<;>(try (exfalso;first|omega|contradiction))))|((with_reducible refine ar_id ?_);first|((refine ar_n (0) (by omega) (by omega) ?_))|((refine ar_n (n) (by omega) (by omega) ?_)))|((with_reducible refine gen_id ?_);first|((refine gen_cap rfl rfl us ?_))|((refine gen_cutz rfl el_stp rfl rfl ?_))|((refine gen_appz (enc:=Stp.c) rfl hp el_stp ui rfl n rfl h0 (by simp only [maxLen];omega) (by omega) ?_);clear hp;intro br cr w hp hnc)|((refine gen_front rfl el_stp rfl hnc rfl 0 rfl (Nat.zero_le _) ?_))|(apply gen_len;exact rfl;exact rfl;assumption)))<;>(conv=>whnf)))
  exact ps_val (v':= .slice (some ⟨br,0,none⟩) 0 cr) rfl ⟨_,_,rfl,hp.made1 (j:=0) rfl⟩
theorem sum_take {l:List (Sl Stp)} {i:Nat} {s:Sl Stp} (h:l[i]? =some s):((l.take (i+1)).flatMap (·.l))=(l.take i).flatMap (·.l)++s.l:=by
 rw [List.take_add_one,h,List.flatMap_append]
 simp
theorem flat_take_le {l:List (Sl Stp)} (i:Nat):((l.take i).flatMap (·.l)).length≤(l.flatMap (·.l)).length:=by
 have h:l.flatMap (·.l)=(l.take i).flatMap (·.l)++(l.drop i).flatMap (·.l):=by rw [←List.flatMap_append,List.take_append_drop]
 rw [h,List.length_append]
 omega
theorem concat_any {B:Nat} {w0:World} {ls:Sl (Sl Stp)} (h:SlAt B w0 slL 1 ls) (hs:∀s∈ls.l,SlAt B w0 Stp.c 39 s) (hn:(ls.l.flatMap (·.l)).length≤1000000):Calls Tryz.prog 210 #[ls.v] w0 fun e w'=>∃r:Sl Stp,r.l=ls.l.flatMap (·.l)∧e= .returned r.v∧Made (rowR 144 39 Stp.c r) w0 w':=by
 have hp:=Hp.start (S:=N0) w0
 have hB:∀b,N0 b→B≤b:=fun _ hh=>hh.elim
 have us:=Tryz.underlying141
 have u2:=Tryz.underlying226
 have hml:=h.max
 have hll:ls.l.length≤9223372036854775807:=by
  have:=h.le
  simp only [maxLen] at hml
  omega
 refine calls_x (args:= [_]) tabOk Tryz.func210 Tryz.ntmps210 Tryz.results210 rfl (Nat.le_of_ble_eq_true rfl) ?_
 ((conv=>whnf);repeat' (((with_reducible refine gen_id ?_);(apply gen_len;exact rfl;exact rfl;assumption))<;>(conv=>whnf)))
 refine lp_inv (α:=Nat) (fun i=> [(0,ls.v),(3,i64 ((ls.l.take i).flatMap (·.l)).length),(9,ls.v),(10,i64 ls.l.length),(11,i64 i)]) (fun i w=>i≤ls.l.length∧Hp N0 w0 w []) (fun i=>ls.l.length - i) 0 (by (repeat' (first|exact trivial|(refine ⟨rfl,?_⟩)))) ⟨by omega,hp⟩ ?_
 clear hp
 rintro i e0 w ⟨hi,hp⟩
 dsimp only at hi hp ⊢
 have hle:=flat_take_le (l:=ls.l) i
 rcases Nat.lt_or_ge i ls.l.length with hlt|hge
 ·obtain ⟨bo,o,s,hA,hbb,hrow,hss⟩:=h.has hlt
  have hst:=congrArg List.length (sum_take hss)
  rw [List.length_append] at hst
  have hle2:=flat_take_le (l:=ls.l) (i+1)
  ((conv=>whnf);repeat' ((first|((with_reducible refine br_id ?_);((with_reducible refine br_dec (fun hx=>?_) (fun hx=>?_))<;>(try (exfalso;first|omega|contradiction))))|((with_reducible refine ar_id ?_);first|((refine ar_n (((ls.l.take i).flatMap (·.l)).length+s.l.length) (by omega) (by omega) ?_))|((refine ar_n (i+1) (by omega) (by omega) ?_)))|((with_reducible refine ld_id ?_);((refine ld_row0 hp hB ‹_› ‹_› _ rfl ‹_› (by rfl) ?_)))|((with_reducible refine gen_id ?_);first|((refine gen_ixs rfl rfl ‹_› rfl rfl (by omega) ?_))|(apply gen_len;exact rfl;exact rfl;assumption)))<;>(conv=>whnf)))
  exact lp_next (i+1) (by show ls.l.length - (i+1) < ls.l.length - i;omega) (by rw [hst];(repeat' (first|exact trivial|(refine ⟨rfl,?_⟩)))) ⟨by show i+1≤_;omega,hp⟩
 rw [List.take_of_length_le (by omega)]
 obtain ⟨N,hN⟩:∃N,(ls.l.flatMap (·.l)).length=N:=⟨_,rfl⟩
 rw [hN] at hn ⊢
 ((conv=>whnf);repeat' (((with_reducible refine br_id ?_);((with_reducible refine br_dec (fun hx=>?_) (fun hx=>?_))<;>(try (exfalso;first|omega|contradiction))))<;>(conv=>whnf)))
 refine cl_eq (grow_any N hn) rfl rfl ?_
 rintro e w ⟨A,c,rfl,hm⟩
 replace hp:=hp.add hm
 clear hm
 refine ⟨_,rfl,?_⟩
 ((conv=>whnf);repeat' (((with_reducible refine gen_id ?_);(apply gen_len;exact rfl;exact rfl;assumption))<;>(conv=>whnf)))
 refine lp_inv (α:=Nat×Sl Stp) (fun a=> [(6,a.2.v),(25,ls.v),(26,i64 ls.l.length),(27,i64 a.1)]) (fun a w=>a.1≤ls.l.length∧a.2.l=(ls.l.take a.1).flatMap (·.l)∧Hp N0 w0 w [rowR 144 39 Stp.c a.2]) (fun a=>ls.l.length - a.1) (0,⟨A,c, []⟩) (by (repeat' (first|exact trivial|(refine ⟨rfl,?_⟩)))) ⟨by omega,rfl,hp⟩ ?_
 clear hp hi hge hle
 rintro ⟨i,r⟩ e0 w ⟨hi,hr,hp⟩
 dsimp only at hi hr hp ⊢
 rcases Nat.lt_or_ge i ls.l.length with hlt|hge
 ·obtain ⟨bo,o,s,hA,hbb,hrow,hss⟩:=h.has hlt
  have hst:=sum_take hss
  have hle2:=flat_take_le (l:=ls.l) (i+1)
  rw [hst,List.length_append,←hr] at hle2
  have hsa:=hs s (List.mem_of_getElem? hss)
  ((conv=>whnf);repeat' ((first|((with_reducible refine br_id ?_);((with_reducible refine br_dec (fun hx=>?_) (fun hx=>?_))<;>(try (exfalso;first|omega|contradiction))))|((with_reducible refine ar_id ?_);((refine ar_n (i+1) (by omega) (by omega) ?_)))|((with_reducible refine ld_id ?_);((refine ld_row0 hp hB ‹_› ‹_› _ rfl ‹_› (by rfl) ?_)))|((with_reducible refine gen_id ?_);first|((refine gen_ixs rfl rfl ‹_› rfl rfl (by omega) ?_))|((refine gen_app (s:=r) rfl hp 0 rfl el_stp rfl s rfl (hsa.keep hp.chg hB) (fun _ _=>rfl) stp_one (by omega) (by simp only [maxLen];omega) ?_);clear hp;intro A2 c2 w hp;dsimp only [List.set] at hp)))<;>(conv=>whnf)))
  exact lp_next (i+1,⟨A2,c2,r.l++s.l⟩) (by show ls.l.length - (i+1) < ls.l.length - i;omega) (by (repeat' (first|exact trivial|(refine ⟨rfl,?_⟩)))) ⟨by show i+1≤_;omega,by show r.l++s.l=_;rw [hst,hr],hp⟩
 ·rw [List.take_of_length_le (by omega)] at hr
  ((conv=>whnf);repeat' (((with_reducible refine br_id ?_);((with_reducible refine br_dec (fun hx=>?_) (fun hx=>?_))<;>(try (exfalso;first|omega|contradiction))))<;>(conv=>whnf)))
  exact ps_val (v':=r.v) rfl ⟨r,hr,rfl,hp.made1 (j:=0) rfl⟩
end Go.Proofs.YteabebmlclgakaaGreat
