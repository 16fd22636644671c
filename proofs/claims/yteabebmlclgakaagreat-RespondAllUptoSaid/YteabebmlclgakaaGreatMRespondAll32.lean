/- MRespondAll32: Sort6, Sort7. -/
import Derived.Test.YteabebmlclgakaaGreatMRespondAllsSort2
import Derived.Test.YteabebmlclgakaaGreatMRespondAllsSort3
import Derived.Test.YteabebmlclgakaaGreatMRespondAllsSort4
import Derived.Test.YteabebmlclgakaaGreatMRespondAllsSort5
import Derived.Sort.LotD3
set_option linter.unusedSimpArgs false
set_option linter.unusedVariables false
/- Sort6: slices.Sort at uint32: the whole. Of own rows of at most a million. -/
namespace Go.Proofs.YteabebmlclgakaaGreat
open Go.RowKit
set_option maxRecDepth 100000
set_option maxHeartbeats 40000000
def PdqC (n:Nat):Prop:=∀{w0:World} {g c N:Nat} {d:Array UInt32} (h:(datR (some ⟨g,0,none⟩) c d).ok w0) {a0 b0 lim0:Nat} (hab:a0≤b0) (hb:b0≤d.size) (hba:b0 - a0 < n) (hN:d.size=N) (hn:N≤1000000) (hlm:lim0≤100) (hB:Sort.Below ltU a0 b0 d),Calls Tryz.prog 226 #[.slice (some ⟨g,0,none⟩) N c,i64 a0,i64 b0,i64 lim0] w0 fun e w'=>∃R:Array UInt32,Sort.PermIn a0 b0 d R∧Sort.SortedIn ltU a0 b0 R∧e= .returned (.tuple #[])∧Mut (datR (some ⟨g,0,none⟩) c d) (datR (some ⟨g,0,none⟩) c R) w0 w'
theorem pdq_step {n:Nat} (ih:PdqC n) {w0:World} {g c N:Nat} {d:Array UInt32} (h:(datR (some ⟨g,0,none⟩) c d).ok w0) {a0 b0 lim0:Nat} (hab:a0≤b0) (hb:b0≤d.size) (hba:b0 - a0 < n+1) (hN:d.size=N) (hn:N≤1000000) (hlm:lim0≤100) (hB:Sort.Below ltU a0 b0 d):Calls Tryz.prog 226 #[.slice (some ⟨g,0,none⟩) N c,i64 a0,i64 b0,i64 lim0] w0 fun e w'=>∃R:Array UInt32,Sort.PermIn a0 b0 d R∧Sort.SortedIn ltU a0 b0 R∧e= .returned (.tuple #[])∧Mut (datR (some ⟨g,0,none⟩) c d) (datR (some ⟨g,0,none⟩) c R) w0 w':=by
 have hp:=Hp.one h
 have us:=Tryz.underlying199
 have hA:(dat (some ⟨g,0,none⟩) c d).A=some ⟨g,0,none⟩:=rfl
 refine calls_x (args:= [_,_,_,_]) tabOk Tryz.func226 Tryz.ntmps226 Tryz.results226 rfl (Nat.le_of_ble_eq_true rfl) ?_
 ((conv=>whnf);repeat' ((first|((with_reducible refine br_id ?_);first|(with_reducible refine br_t ?_)|(with_reducible refine br_f ?_)|(with_reducible refine br_not ?_)|((with_reducible refine br_dec (fun hx=>?_) (fun hx=>?_))<;>(try (exfalso;first|omega|contradiction)))|((with_reducible refine br_eq (fun hx=>?_) (fun hx=>?_))<;>(try (exfalso;first|omega|contradiction)))|((with_reducible refine br_ne (fun hx=>?_) (fun hx=>?_))<;>(try (exfalso;first|omega|contradiction)))|((with_reducible refine br_s (fun hx=>?_) (fun hx=>?_))<;>(try (exfalso;first|omega|contradiction))))|((with_reducible refine ar_id ?_);first|(refine ar_i64 (by omega) ?_)|(refine ar_u32 (by omega) ?_)|(refine ar_u64 (by omega) ?_)|(refine ar_u8 (by omega) ?_))|((with_reducible refine cn_id ?_);first|(refine cn rfl ?_)|(refine cn ‹_› ?_)|(refine cn (by omega) ?_)|(refine cn (Chg.refl _ _) ?_))|((with_reducible refine ld_id ?_);first|(apply ld_hs hp;(focus repeat' constructor);exact rfl)|(refine ld_of ‹_› ?_))|((with_reducible refine ldn_id ?_);first|(apply lda_hs hp;(focus repeat' constructor);exact rfl)|(apply ldn_hs hp;(focus repeat' constructor);exact rfl;exact rfl))|((with_reducible refine al_id ?_);(refine al_cel hp ?_;clear hp;intro bb w hp))|((with_reducible refine st_id ?_);first|(apply sta_hs hp;(focus repeat' constructor);exact rfl;exact rfl;clear hp;intro w hp;(try dsimp only [List.set] at hp))|(apply st_hs hp;(focus repeat' constructor);exact rfl;exact rfl;clear hp;intro w hp;(try dsimp only [List.set] at hp)))|((with_reducible refine gen_id ?_);first|(apply gen_build;exact rfl;exact rfl)|(apply gen_len;exact rfl;exact rfl;assumption)|(apply gen_min;exact rfl;exact rfl;exact rfl)|(apply gen_max;exact rfl;exact rfl;exact rfl)|(apply gen_ix;exact rfl;exact rfl;exact rfl;exact rfl;omega)|(apply gen_ixa;exact rfl;exact rfl;exact rfl;exact rfl;omega))|((with_reducible refine dr_id ?_);first|(refine dr_auto tabOk (by kernel_rfl) (by decide+kernel) ?_;(try replace hp:=hp.drew))|(refine dr_autog tabOk (by kernel_rfl) (by decide+kernel) ?_;(try replace hp:=hp.drew))|(refine dr_autot tabOk (by kernel_rfl) (by decide+kernel) ?_;(try replace hp:=hp.drew)))|((with_reducible refine fk_id ?_);(refine fk_mk ?_ ?_))|((with_reducible refine rd_id ?_);first|(apply rd_len;exact rfl;exact rfl;assumption)|(apply rd_ix;exact rfl;exact rfl;exact rfl;exact rfl;omega)))<;>(conv=>whnf)))
 refine lp_inv (α:=Nat×Nat×Nat×Bool×Bool×Array UInt32) (fun x=> [(0, .slice (some ⟨g,0,none⟩) N c),(1,i64 x.1),(2,i64 x.2.1),(3,i64 x.2.2.1),(8, .bool x.2.2.2.1),(9, .bool x.2.2.2.2.1)]) (fun x w=>x.1≤x.2.1∧x.2.1≤N∧x.2.1 - x.1≤n∧x.2.2.1≤100∧x.2.2.2.2.2.size=N∧Sort.Below ltU x.1 x.2.1 x.2.2.2.2.2∧(∀R,Sort.PermIn x.1 x.2.1 x.2.2.2.2.2 R→Sort.SortedIn ltU x.1 x.2.1 R→Sort.PermIn a0 b0 d R∧Sort.SortedIn ltU a0 b0 R)∧Hp (datR (some ⟨g,0,none⟩) c d).dom w0 w [datR (some ⟨g,0,none⟩) c x.2.2.2.2.2]) (fun x=>x.2.1 - x.1) (a0,b0,lim0,true,true,d) (by (repeat' (first|exact trivial|(refine ⟨rfl,?_⟩)))) ⟨hab,by show b0≤N;omega,by show b0 - a0≤n;omega,hlm,hN,hB,fun R h1 h2=>⟨h1,h2⟩,hp⟩ ?_
 clear hp hB hab hb hba hlm
 rintro ⟨a,b,lim,wb,wp,d0⟩ e0 w ⟨hab,hbN,hba,hlim,hs0,hB,hF,hp⟩
 dsimp only at hab hbN hba hlim hs0 hB hF hp ⊢
 have hb0:b≤d0.size:=by omega
 have hq8:((b - a:Nat):Int).tdiv 8=(((b - a) / 8:Nat):Int):=(Int.ofNat_tdiv _ _).symm
 by_cases h12:b - a≤12
 ·((conv=>whnf);repeat' ((first|((with_reducible refine br_id ?_);((with_reducible refine br_dec (fun hx=>?_) (fun hx=>?_))<;>(try (exfalso;first|omega|contradiction))))|((with_reducible refine ar_id ?_);((refine ar_n (b - a) (by omega) (by omega) ?_))))<;>(conv=>whnf)))
  refine cl_eq (ins_any (N:=N) (hp.get (j:=0) rfl) hab hb0 hs0 hn) rfl rfl ?_
  rintro e w ⟨rfl,hmt⟩
  replace hp:=hp.via (j:=0) rfl hmt
  clear hmt
  dsimp only [List.set] at hp
  refine ⟨_,rfl,?_⟩
  ((conv=>whnf);repeat' ((first|((with_reducible refine br_id ?_);first|(with_reducible refine br_t ?_)|(with_reducible refine br_f ?_)|(with_reducible refine br_not ?_)|((with_reducible refine br_dec (fun hx=>?_) (fun hx=>?_))<;>(try (exfalso;first|omega|contradiction)))|((with_reducible refine br_eq (fun hx=>?_) (fun hx=>?_))<;>(try (exfalso;first|omega|contradiction)))|((with_reducible refine br_ne (fun hx=>?_) (fun hx=>?_))<;>(try (exfalso;first|omega|contradiction)))|((with_reducible refine br_s (fun hx=>?_) (fun hx=>?_))<;>(try (exfalso;first|omega|contradiction))))|((with_reducible refine ar_id ?_);first|(refine ar_i64 (by omega) ?_)|(refine ar_u32 (by omega) ?_)|(refine ar_u64 (by omega) ?_)|(refine ar_u8 (by omega) ?_))|((with_reducible refine cn_id ?_);first|(refine cn rfl ?_)|(refine cn ‹_› ?_)|(refine cn (by omega) ?_)|(refine cn (Chg.refl _ _) ?_))|((with_reducible refine ld_id ?_);first|(apply ld_hs hp;(focus repeat' constructor);exact rfl)|(refine ld_of ‹_› ?_))|((with_reducible refine ldn_id ?_);first|(apply lda_hs hp;(focus repeat' constructor);exact rfl)|(apply ldn_hs hp;(focus repeat' constructor);exact rfl;exact rfl))|((with_reducible refine al_id ?_);(refine al_cel hp ?_;clear hp;intro bb w hp))|((with_reducible refine st_id ?_);first|(apply sta_hs hp;(focus repeat' constructor);exact rfl;exact rfl;clear hp;intro w hp;(try dsimp only [List.set] at hp))|(apply st_hs hp;(focus repeat' constructor);exact rfl;exact rfl;clear hp;intro w hp;(try dsimp only [List.set] at hp)))|((with_reducible refine gen_id ?_);first|(apply gen_build;exact rfl;exact rfl)|(apply gen_len;exact rfl;exact rfl;assumption)|(apply gen_min;exact rfl;exact rfl;exact rfl)|(apply gen_max;exact rfl;exact rfl;exact rfl)|(apply gen_ix;exact rfl;exact rfl;exact rfl;exact rfl;omega)|(apply gen_ixa;exact rfl;exact rfl;exact rfl;exact rfl;omega))|((with_reducible refine dr_id ?_);first|(refine dr_auto tabOk (by kernel_rfl) (by decide+kernel) ?_;(try replace hp:=hp.drew))|(refine dr_autog tabOk (by kernel_rfl) (by decide+kernel) ?_;(try replace hp:=hp.drew))|(refine dr_autot tabOk (by kernel_rfl) (by decide+kernel) ?_;(try replace hp:=hp.drew)))|((with_reducible refine fk_id ?_);(refine fk_mk ?_ ?_))|((with_reducible refine rd_id ?_);first|(apply rd_len;exact rfl;exact rfl;assumption)|(apply rd_ix;exact rfl;exact rfl;exact rfl;exact rfl;omega)))<;>(conv=>whnf)))
  obtain ⟨h1,h2⟩:=Sort.insertionSort_holds swoU d0 a b hab hb0
  obtain ⟨h3,h4⟩:=hF _ h1 h2
  exact ps_val (v':= .tuple #[]) rfl ⟨_,h3,h4,rfl,hp.shut1 (j:=0) rfl⟩
 by_cases hl0:lim=0
 ·subst hl0
  ((conv=>whnf);repeat' ((first|((with_reducible refine br_id ?_);first|((with_reducible refine br_dec (fun hx=>?_) (fun hx=>?_))<;>(try (exfalso;first|omega|contradiction)))|((with_reducible refine br_eq (fun hx=>?_) (fun hx=>?_))<;>(try (exfalso;first|omega|contradiction))))|((with_reducible refine ar_id ?_);((refine ar_n (b - a) (by omega) (by omega) ?_))))<;>(conv=>whnf)))
  refine cl_eq (heap_any (N:=N) (hp.get (j:=0) rfl) (by omega) hb0 hs0 hn) rfl rfl ?_
  rintro e w ⟨rfl,hmt⟩
  replace hp:=hp.via (j:=0) rfl hmt
  clear hmt
  dsimp only [List.set] at hp
  refine ⟨_,rfl,?_⟩
  ((conv=>whnf);repeat' ((first|((with_reducible refine br_id ?_);first|(with_reducible refine br_t ?_)|(with_reducible refine br_f ?_)|(with_reducible refine br_not ?_)|((with_reducible refine br_dec (fun hx=>?_) (fun hx=>?_))<;>(try (exfalso;first|omega|contradiction)))|((with_reducible refine br_eq (fun hx=>?_) (fun hx=>?_))<;>(try (exfalso;first|omega|contradiction)))|((with_reducible refine br_ne (fun hx=>?_) (fun hx=>?_))<;>(try (exfalso;first|omega|contradiction)))|((with_reducible refine br_s (fun hx=>?_) (fun hx=>?_))<;>(try (exfalso;first|omega|contradiction))))|((with_reducible refine ar_id ?_);first|(refine ar_i64 (by omega) ?_)|(refine ar_u32 (by omega) ?_)|(refine ar_u64 (by omega) ?_)|(refine ar_u8 (by omega) ?_))|((with_reducible refine cn_id ?_);first|(refine cn rfl ?_)|(refine cn ‹_› ?_)|(refine cn (by omega) ?_)|(refine cn (Chg.refl _ _) ?_))|((with_reducible refine ld_id ?_);first|(apply ld_hs hp;(focus repeat' constructor);exact rfl)|(refine ld_of ‹_› ?_))|((with_reducible refine ldn_id ?_);first|(apply lda_hs hp;(focus repeat' constructor);exact rfl)|(apply ldn_hs hp;(focus repeat' constructor);exact rfl;exact rfl))|((with_reducible refine al_id ?_);(refine al_cel hp ?_;clear hp;intro bb w hp))|((with_reducible refine st_id ?_);first|(apply sta_hs hp;(focus repeat' constructor);exact rfl;exact rfl;clear hp;intro w hp;(try dsimp only [List.set] at hp))|(apply st_hs hp;(focus repeat' constructor);exact rfl;exact rfl;clear hp;intro w hp;(try dsimp only [List.set] at hp)))|((with_reducible refine gen_id ?_);first|(apply gen_build;exact rfl;exact rfl)|(apply gen_len;exact rfl;exact rfl;assumption)|(apply gen_min;exact rfl;exact rfl;exact rfl)|(apply gen_max;exact rfl;exact rfl;exact rfl)|(apply gen_ix;exact rfl;exact rfl;exact rfl;exact rfl;omega)|(apply gen_ixa;exact rfl;exact rfl;exact rfl;exact rfl;omega))|((with_reducible refine dr_id ?_);first|(refine dr_auto tabOk (by kernel_rfl) (by decide+kernel) ?_;(try replace hp:=hp.drew))|(refine dr_autog tabOk (by kernel_rfl) (by decide+kernel) ?_;(try replace hp:=hp.drew))|(refine dr_autot tabOk (by kernel_rfl) (by decide+kernel) ?_;(try replace hp:=hp.drew)))|((with_reducible refine fk_id ?_);(refine fk_mk ?_ ?_))|((with_reducible refine rd_id ?_);first|(apply rd_len;exact rfl;exact rfl;assumption)|(apply rd_ix;exact rfl;exact rfl;exact rfl;exact rfl;omega)))<;>(conv=>whnf)))
  obtain ⟨h1,h2⟩:=Sort.heapSort_holds swoU d0 a b hab hb0
  obtain ⟨h3,h4⟩:=hF _ h1 h2
  exact ps_val (v':= .tuple #[]) rfl ⟨_,h3,h4,rfl,hp.shut1 (j:=0) rfl⟩
 obtain ⟨k,rfl⟩:∃k,lim=k+1:=⟨lim - 1,by omega⟩
 obtain ⟨l2,hl2⟩:∃l2,(if wb then k+1 else k)=l2:=⟨_,rfl⟩
 cases wb
 case' false=>
  clear hl2 l2
  ((conv=>whnf);repeat' ((first|((with_reducible refine br_id ?_);first|(with_reducible refine br_f ?_)|(with_reducible refine br_not ?_)|((with_reducible refine br_dec (fun hx=>?_) (fun hx=>?_))<;>(try (exfalso;first|omega|contradiction)))|((with_reducible refine br_eq (fun hx=>?_) (fun hx=>?_))<;>(try (exfalso;first|omega|contradiction))))|((with_reducible refine ar_id ?_);((refine ar_n (b - a) (by omega) (by omega) ?_))))<;>(conv=>whnf)))
  refine cl_eq (brk_any (N:=N) (hp.get (j:=0) rfl) (a:=a) (b:=b) (by omega) hb0 hs0 hn) rfl rfl ?_
  rintro e w ⟨d1,hP1,rfl,hmt⟩
  replace hp:=hp.via (j:=0) rfl hmt
  clear hmt
  dsimp only [List.set] at hp
  refine ⟨_,rfl,?_⟩
  ((conv=>whnf);repeat' (((with_reducible refine ar_id ?_);((refine ar_n (k) (by omega) (by omega) ?_)))<;>(conv=>whnf)))
  obtain ⟨l2,hl2⟩:∃y,y=k:=⟨_,rfl⟩
  rw [←hl2]
 case' true=>
  clear hl2 l2
  ((conv=>whnf);repeat' ((first|((with_reducible refine br_id ?_);first|(with_reducible refine br_t ?_)|(with_reducible refine br_not ?_)|((with_reducible refine br_dec (fun hx=>?_) (fun hx=>?_))<;>(try (exfalso;first|omega|contradiction)))|((with_reducible refine br_eq (fun hx=>?_) (fun hx=>?_))<;>(try (exfalso;first|omega|contradiction))))|((with_reducible refine ar_id ?_);((refine ar_n (b - a) (by omega) (by omega) ?_))))<;>(conv=>whnf)))
  obtain ⟨d1,hd1⟩:∃y,y=d0:=⟨_,rfl⟩
  rw [←hd1] at hp
  have hP1:Sort.PermIn a b d0 d1:=by rw [hd1];exact Sort.permIn_refl _ _ _
  clear hd1
  obtain ⟨l2,hl2⟩:∃y,y=k+1:=⟨_,rfl⟩
  rw [←hl2]
 all_goals
  have hs1:d1.size=N:=by rw [hP1.1];exact hs0
  have hb1:b≤d1.size:=by omega
  refine cl_eq (piv_any (N:=N) (hp.get (j:=0) rfl) (a:=a) (b:=b) (by omega) hb1 hs1 hn) rfl rfl ?_
  rintro e w ⟨p,q,hpr,hq,rfl,hmt⟩
  replace hp:=hp.via (j:=0) rfl hmt
  clear hmt
  dsimp only [List.set] at hp
  refine ⟨_,rfl,?_⟩
  have hB1:=hB.perm hb0 hP1
  clear hB
  have hl2b:l2≤100:=by omega
  rcases hq with rfl|rfl|rfl
  case' inr.inr=>
   ((conv=>whnf);repeat' (((with_reducible refine br_id ?_);((with_reducible refine br_eq (fun hx=>?_) (fun hx=>?_))<;>(try (exfalso;first|omega|contradiction))))<;>(conv=>whnf)))
   refine cl_eq (rev_any (N:=N) (hp.get (j:=0) rfl) (a:=a) (b:=b) (by omega) hb1 hs1 hn) rfl rfl ?_
   rintro e w ⟨rfl,hmt⟩
   replace hp:=hp.via (j:=0) rfl hmt
   clear hmt
   dsimp only [List.set] at hp
   refine ⟨_,rfl,?_⟩
   have hrv:=Sort.reverseRange_holds d1 a b hab hb1
   obtain ⟨d2,hd2⟩:∃y,Sort.reverseRange d1 a b=y:=⟨_,rfl⟩
   obtain ⟨p2,hp2⟩:∃y,b - 1 - (p - a)=y:=⟨_,rfl⟩
   rw [hd2] at hrv hp
   have hB2:=hB1.perm hb1 hrv
   have hP2:=Sort.permIn_trans _ _ _ _ _ hP1 hrv
   have hpr2:a≤p2∧p2 < b:=by omega
   cases wp
   all_goals ((conv=>whnf);repeat' ((first|((with_reducible refine br_id ?_);first|(with_reducible refine br_t ?_)|(with_reducible refine br_f ?_)|((with_reducible refine br_eq (fun hx=>?_) (fun hx=>?_))<;>(try (exfalso;first|omega|contradiction))))|((with_reducible refine ar_id ?_);first|((refine ar_n (b - 1) (by omega) (by omega) ?_))|((refine ar_n (p - a) (by omega) (by omega) ?_))|((refine ar_n (p2) (by omega) (by omega) ?_))))<;>(conv=>whnf)))
  case' inl=>
   obtain ⟨d2,hd2⟩:∃y,y=d1:=⟨_,rfl⟩
   obtain ⟨p2,hp2⟩:∃y,y=p:=⟨_,rfl⟩
   have hB2:Sort.Below ltU a b d2:=by rw [hd2];exact hB1
   have hP2:Sort.PermIn a b d0 d2:=by rw [hd2];exact hP1
   have hpr2:a≤p2∧p2 < b:=by rw [hp2];exact hpr
   rw [←hd2] at hp
   rw [←hp2]
   cases wp
   all_goals ((conv=>whnf);repeat' (((with_reducible refine br_id ?_);first|(with_reducible refine br_t ?_)|(with_reducible refine br_f ?_)|((with_reducible refine br_eq (fun hx=>?_) (fun hx=>?_))<;>(try (exfalso;first|omega|contradiction))))<;>(conv=>whnf)))
  case' inr.inl=>
   obtain ⟨d2,hd2⟩:∃y,y=d1:=⟨_,rfl⟩
   obtain ⟨p2,hp2⟩:∃y,y=p:=⟨_,rfl⟩
   have hB2:Sort.Below ltU a b d2:=by rw [hd2];exact hB1
   have hP2:Sort.PermIn a b d0 d2:=by rw [hd2];exact hP1
   have hpr2:a≤p2∧p2 < b:=by rw [hp2];exact hpr
   rw [←hd2] at hp
   rw [←hp2]
   cases wp
   all_goals ((conv=>whnf);repeat' (((with_reducible refine br_id ?_);first|(with_reducible refine br_t ?_)|(with_reducible refine br_f ?_)|((with_reducible refine br_eq (fun hx=>?_) (fun hx=>?_))<;>(try (exfalso;first|omega|contradiction))))<;>(conv=>whnf)))
  all_goals
   have hs2:d2.size=N:=by rw [hP2.1];exact hs0
   have hb2:b≤d2.size:=by omega
   first
    |refine cl_eq (pins_any (N:=N) (hp.get (j:=0) rfl) (a:=a) (b:=b) (by omega) hb2 hs2 hn) rfl rfl ?_
    |skip
  all_goals first
   |rintro e w ⟨rfl,hmt⟩
    replace hp:=hp.via (j:=0) rfl hmt
    clear hmt
    dsimp only [List.set] at hp
    obtain ⟨hq1,hq2⟩:=Sort.partialInsertionSort_holds swoU d2 a b (by omega) hb2 hB2
    obtain ⟨r,hr⟩:∃r,Sort.partialInsertionSort ltU d2 a b=r:=⟨_,rfl⟩
    rw [hr] at hq1 hq2 hp ⊢
    obtain ⟨d3,rr⟩:=r
    dsimp only at hq1 hq2 hp
    have hP3:=Sort.permIn_trans _ _ _ _ _ hP2 hq1
    have hB3:=hB2.perm hb2 hq1
    refine ⟨_,rfl,?_⟩
    cases rr
    case' true=>
     ((conv=>whnf);repeat' (((with_reducible refine br_id ?_);(with_reducible refine br_t ?_))<;>(conv=>whnf)))
     obtain ⟨h3,h4⟩:=hF _ hP3 (hq2 rfl)
     exact ps_val (v':= .tuple #[]) rfl ⟨_,h3,h4,rfl,hp.shut1 (j:=0) rfl⟩
    ((conv=>whnf);repeat' (((with_reducible refine br_id ?_);(with_reducible refine br_f ?_))<;>(conv=>whnf)))
   |obtain ⟨d3,hd3⟩:∃y,y=d2:=⟨_,rfl⟩
    rw [←hd3] at hp
    have hP3:Sort.PermIn a b d0 d3:=by rw [hd3];exact hP2
    have hB3:Sort.Below ltU a b d3:=by rw [hd3];exact hB2
    clear hd3
  all_goals
   have hs3:d3.size=N:=by rw [hP3.1];exact hs0
   have hb3:b≤d3.size:=by omega
   clear hP1 hP2 hB1 hB2 hb1 hb2 hs1 hs2
   have hx2:=sat_ d3 (i:=p2) (by omega)
   refine dr_auto tabOk (by kernel_rfl) (by decide+kernel) ?_
   replace hp:=hp.drew
   by_cases heq:0 < a∧ltU d3[a - 1]! d3[p2]! =false
   ·obtain ⟨a2,ha2⟩:∃a2,a=a2+1:=⟨a - 1,by omega⟩
    have hx1:=sat_ d3 (i:=a2) (by omega)
    have hless:=fun w=>less_any w d3[a2]! d3[p2]!
    rw [show a - 1=a2 by omega] at heq
    rw [heq.2] at hless
    ((conv=>whnf);repeat' ((first|((with_reducible refine br_id ?_);first|(with_reducible refine br_t ?_)|(with_reducible refine br_f ?_)|(with_reducible refine br_not ?_)|((with_reducible refine br_dec (fun hx=>?_) (fun hx=>?_))<;>(try (exfalso;first|omega|contradiction))))|((with_reducible refine ar_id ?_);((refine ar_n (a2) (by omega) (by omega) ?_)))|((with_reducible refine ld_id ?_);((refine ld_own0 hp 0 rfl ‹_› _ rfl ‹_› (by rfl) ?_)))|((with_reducible refine cl_id ?_);((refine cl_eq ((hless _)) rfl rfl ?_;rintro e w ⟨rfl,hcc⟩;replace hp:=hp.call0 hcc;refine ⟨_,rfl,?_⟩)))|((with_reducible refine rd_id ?_);((refine rd_ixs rfl rfl ‹_› rfl rfl (by omega) ?_))))<;>(conv=>whnf)))
    refine cl_eq (peq_any (N:=N) (hp.get (j:=0) rfl) (a:=a) (b:=b) (p:=p2) hpr2.1 hpr2.2 hb3 hs3 hn) rfl rfl ?_
    rintro e w ⟨rfl,hmt⟩
    replace hp:=hp.via (j:=0) rfl hmt
    clear hmt
    dsimp only [List.set] at hp
    refine ⟨_,rfl,?_⟩
    obtain ⟨r,hr⟩:∃r,Sort.partitionEqual ltU d3 a b p2=r:=⟨_,rfl⟩
    rw [hr] at hp ⊢
    obtain ⟨mid,d4⟩:=r
    dsimp only at hp ⊢
    obtain ⟨g1,g2,g3,g4,g5⟩:=Sort.round_eq swoU (Sort.partitionEqual_holds ltU) (by omega) hpr2.1 hpr2.2 hb3 hB3 (by rw [show a - 1=a2 by omega];exact heq.2) hr
    ((conv=>whnf);repeat' ((first|((with_reducible refine br_id ?_);first|(with_reducible refine br_t ?_)|(with_reducible refine br_f ?_)|(with_reducible refine br_not ?_)|((with_reducible refine br_dec (fun hx=>?_) (fun hx=>?_))<;>(try (exfalso;first|omega|contradiction)))|((with_reducible refine br_eq (fun hx=>?_) (fun hx=>?_))<;>(try (exfalso;first|omega|contradiction)))|((with_reducible refine br_ne (fun hx=>?_) (fun hx=>?_))<;>(try (exfalso;first|omega|contradiction)))|((with_reducible refine br_s (fun hx=>?_) (fun hx=>?_))<;>(try (exfalso;first|omega|contradiction))))|((with_reducible refine ar_id ?_);first|(refine ar_i64 (by omega) ?_)|(refine ar_u32 (by omega) ?_)|(refine ar_u64 (by omega) ?_)|(refine ar_u8 (by omega) ?_))|((with_reducible refine cn_id ?_);first|(refine cn rfl ?_)|(refine cn ‹_› ?_)|(refine cn (by omega) ?_)|(refine cn (Chg.refl _ _) ?_))|((with_reducible refine ld_id ?_);first|(apply ld_hs hp;(focus repeat' constructor);exact rfl)|(refine ld_of ‹_› ?_))|((with_reducible refine ldn_id ?_);first|(apply lda_hs hp;(focus repeat' constructor);exact rfl)|(apply ldn_hs hp;(focus repeat' constructor);exact rfl;exact rfl))|((with_reducible refine al_id ?_);(refine al_cel hp ?_;clear hp;intro bb w hp))|((with_reducible refine st_id ?_);first|(apply sta_hs hp;(focus repeat' constructor);exact rfl;exact rfl;clear hp;intro w hp;(try dsimp only [List.set] at hp))|(apply st_hs hp;(focus repeat' constructor);exact rfl;exact rfl;clear hp;intro w hp;(try dsimp only [List.set] at hp)))|((with_reducible refine gen_id ?_);first|(apply gen_build;exact rfl;exact rfl)|(apply gen_len;exact rfl;exact rfl;assumption)|(apply gen_min;exact rfl;exact rfl;exact rfl)|(apply gen_max;exact rfl;exact rfl;exact rfl)|(apply gen_ix;exact rfl;exact rfl;exact rfl;exact rfl;omega)|(apply gen_ixa;exact rfl;exact rfl;exact rfl;exact rfl;omega))|((with_reducible refine dr_id ?_);first|(refine dr_auto tabOk (by kernel_rfl) (by decide+kernel) ?_;(try replace hp:=hp.drew))|(refine dr_autog tabOk (by kernel_rfl) (by decide+kernel) ?_;(try replace hp:=hp.drew))|(refine dr_autot tabOk (by kernel_rfl) (by decide+kernel) ?_;(try replace hp:=hp.drew)))|((with_reducible refine fk_id ?_);(refine fk_mk ?_ ?_))|((with_reducible refine rd_id ?_);first|(apply rd_len;exact rfl;exact rfl;assumption)|(apply rd_ix;exact rfl;exact rfl;exact rfl;exact rfl;omega)))<;>(conv=>whnf)))
    exact lp_next (mid,b,l2,_,_,d4) (by show b - mid < b - a;omega) (by (repeat' (first|exact trivial|(refine ⟨rfl,?_⟩)))) ⟨g2,hbN,by show b - mid≤n;omega,hl2b,by show d4.size=N;omega,g4,fun R h1 h2=>by obtain ⟨k1,k2⟩:=g5 R h1 h2;exact hF R (Sort.permIn_trans _ _ _ _ _ hP3 k1) k2,hp⟩
   ·have hless0:∀a2,a=a2+1→∀w,Calls Tryz.prog 255 #[u32 d3[a2]!,u32 d3[p2]!] w fun e w'=>e= .returned (.bool true)∧Chg N0 w w':=fun a2 h1 w=>by
     have h2:=less_any w d3[a2]! d3[p2]!
     have h3:ltU d3[a2]! d3[p2]! =true:=by
      cases hl:ltU d3[a2]! d3[p2]! with
      |true=>rfl
      |false=>exact absurd ⟨by omega,by rw [show a - 1=a2 by omega];exact hl⟩ heq
     rwa [h3] at h2
    rcases Nat.eq_zero_or_pos a with ha0|ha0
    case' inl=>
     ((conv=>whnf);repeat' (((with_reducible refine br_id ?_);first|(with_reducible refine br_f ?_)|((with_reducible refine br_dec (fun hx=>?_) (fun hx=>?_))<;>(try (exfalso;first|omega|contradiction))))<;>(conv=>whnf)))
    case' inr=>
     obtain ⟨a2,ha2⟩:∃a2,a=a2+1:=⟨a - 1,by omega⟩
     have hx1:=sat_ d3 (i:=a2) (by omega)
     ((conv=>whnf);repeat' ((first|((with_reducible refine br_id ?_);first|(with_reducible refine br_t ?_)|(with_reducible refine br_not ?_)|((with_reducible refine br_dec (fun hx=>?_) (fun hx=>?_))<;>(try (exfalso;first|omega|contradiction))))|((with_reducible refine ar_id ?_);((refine ar_n (a2) (by omega) (by omega) ?_)))|((with_reducible refine ld_id ?_);((refine ld_own0 hp 0 rfl ‹_› _ rfl ‹_› (by rfl) ?_)))|((with_reducible refine cl_id ?_);((refine cl_eq ((hless0 a2 ha2 _)) rfl rfl ?_;rintro e w ⟨rfl,hcc⟩;replace hp:=hp.call0 hcc;refine ⟨_,rfl,?_⟩)))|((with_reducible refine rd_id ?_);((refine rd_ixs rfl rfl ‹_› rfl rfl (by omega) ?_))))<;>(conv=>whnf)))
    all_goals
     refine cl_eq (part_any (N:=N) (hp.get (j:=0) rfl) (a:=a) (b:=b) (p:=p2) hpr2.1 hpr2.2 hb3 hs3 hn) rfl rfl ?_
     rintro e w ⟨rfl,hmt⟩
     replace hp:=hp.via (j:=0) rfl hmt
     clear hmt hless0
     dsimp only [List.set] at hp
     refine ⟨_,rfl,?_⟩
     obtain ⟨r,hr⟩:∃r,Sort.partition ltU d3 a b p2=r:=⟨_,rfl⟩
     rw [hr] at hp ⊢
     obtain ⟨mid,ap,d4⟩:=r
     dsimp only at hp ⊢
     obtain ⟨g1,g2,g3,g4,g5,g6,g7⟩:=Sort.round_part swoU (Sort.partition_holds ltU) hpr2.1 hpr2.2 hb3 hB3 hr
     by_cases hlt:mid - a < b - mid
     ·((conv=>whnf);repeat' ((first|((with_reducible refine br_id ?_);((with_reducible refine br_dec (fun hx=>?_) (fun hx=>?_))<;>(try (exfalso;first|omega|contradiction))))|((with_reducible refine ar_id ?_);first|((refine ar_n ((b - a) / 8) hq8 (by omega) ?_))|((refine ar_n (mid - a) (by omega) (by omega) ?_))|((refine ar_n (b - mid) (by omega) (by omega) ?_)))|((with_reducible refine cn_id ?_);(refine cn (by omega) ?_)))<;>(conv=>whnf)))
      refine cl_eq (ih (N:=N) (hp.get (j:=0) rfl) (a0:=a) (b0:=mid) (lim0:=l2) g1 (by omega) (by omega) (by omega) hn hl2b g4) rfl rfl ?_
      rintro e w ⟨L,h1,h2,rfl,hmt⟩
      replace hp:=hp.via (j:=0) rfl hmt
      clear hmt
      dsimp only [List.set] at hp
      refine ⟨_,rfl,?_⟩
      obtain ⟨k1,k2⟩:=g6 L h1 h2
      ((conv=>whnf);repeat' (((with_reducible refine ar_id ?_);((refine ar_n (mid+1) (by omega) (by omega) ?_)))<;>(conv=>whnf)))
      exact lp_next (mid+1,b,l2,_,ap,L) (by show b - (mid+1) < b - a;omega) (by (repeat' (first|exact trivial|(refine ⟨rfl,?_⟩)))) ⟨by show mid+1≤b;omega,hbN,by show b - (mid+1)≤n;omega,hl2b,by show L.size=N;rw [h1.1];omega,k1,fun R r1 r2=>by obtain ⟨q1,q2⟩:=k2 R r1 r2;exact hF R (Sort.permIn_trans _ _ _ _ _ hP3 q1) q2,hp⟩
     ·((conv=>whnf);repeat' ((first|((with_reducible refine br_id ?_);((with_reducible refine br_dec (fun hx=>?_) (fun hx=>?_))<;>(try (exfalso;first|omega|contradiction))))|((with_reducible refine ar_id ?_);first|((refine ar_n ((b - a) / 8) hq8 (by omega) ?_))|((refine ar_n (mid - a) (by omega) (by omega) ?_))|((refine ar_n (b - mid) (by omega) (by omega) ?_))|((refine ar_n (mid+1) (by omega) (by omega) ?_)))|((with_reducible refine cn_id ?_);(refine cn (by omega) ?_)))<;>(conv=>whnf)))
      refine cl_eq (ih (N:=N) (hp.get (j:=0) rfl) (a0:=mid+1) (b0:=b) (lim0:=l2) (by omega) (by omega) (by omega) (by omega) hn hl2b g5) rfl rfl ?_
      rintro e w ⟨L,h1,h2,rfl,hmt⟩
      replace hp:=hp.via (j:=0) rfl hmt
      clear hmt
      dsimp only [List.set] at hp
      refine ⟨_,rfl,?_⟩
      obtain ⟨k1,k2⟩:=g7 L h1 h2
      ((conv=>whnf);repeat' ((first|((with_reducible refine br_id ?_);first|(with_reducible refine br_t ?_)|(with_reducible refine br_f ?_)|(with_reducible refine br_not ?_)|((with_reducible refine br_dec (fun hx=>?_) (fun hx=>?_))<;>(try (exfalso;first|omega|contradiction)))|((with_reducible refine br_eq (fun hx=>?_) (fun hx=>?_))<;>(try (exfalso;first|omega|contradiction)))|((with_reducible refine br_ne (fun hx=>?_) (fun hx=>?_))<;>(try (exfalso;first|omega|contradiction)))|((with_reducible refine br_s (fun hx=>?_) (fun hx=>?_))<;>(try (exfalso;first|omega|contradiction))))|((with_reducible refine ar_id ?_);first|((refine ar_n (mid+1) (by omega) (by omega) ?_))|(refine ar_i64 (by omega) ?_)|(refine ar_u32 (by omega) ?_)|(refine ar_u64 (by omega) ?_)|(refine ar_u8 (by omega) ?_))|((with_reducible refine cn_id ?_);first|(refine cn rfl ?_)|(refine cn ‹_› ?_)|(refine cn (by omega) ?_)|(refine cn (Chg.refl _ _) ?_))|((with_reducible refine ld_id ?_);first|(apply ld_hs hp;(focus repeat' constructor);exact rfl)|(refine ld_of ‹_› ?_))|((with_reducible refine ldn_id ?_);first|(apply lda_hs hp;(focus repeat' constructor);exact rfl)|(apply ldn_hs hp;(focus repeat' constructor);exact rfl;exact rfl))|((with_reducible refine al_id ?_);(refine al_cel hp ?_;clear hp;intro bb w hp))|((with_reducible refine st_id ?_);first|(apply sta_hs hp;(focus repeat' constructor);exact rfl;exact rfl;clear hp;intro w hp;(try dsimp only [List.set] at hp))|(apply st_hs hp;(focus repeat' constructor);exact rfl;exact rfl;clear hp;intro w hp;(try dsimp only [List.set] at hp)))|((with_reducible refine gen_id ?_);first|(apply gen_build;exact rfl;exact rfl)|(apply gen_len;exact rfl;exact rfl;assumption)|(apply gen_min;exact rfl;exact rfl;exact rfl)|(apply gen_max;exact rfl;exact rfl;exact rfl)|(apply gen_ix;exact rfl;exact rfl;exact rfl;exact rfl;omega)|(apply gen_ixa;exact rfl;exact rfl;exact rfl;exact rfl;omega))|((with_reducible refine dr_id ?_);first|(refine dr_auto tabOk (by kernel_rfl) (by decide+kernel) ?_;(try replace hp:=hp.drew))|(refine dr_autog tabOk (by kernel_rfl) (by decide+kernel) ?_;(try replace hp:=hp.drew))|(refine dr_autot tabOk (by kernel_rfl) (by decide+kernel) ?_;(try replace hp:=hp.drew)))|((with_reducible refine fk_id ?_);(refine fk_mk ?_ ?_))|((with_reducible refine rd_id ?_);first|(apply rd_len;exact rfl;exact rfl;assumption)|(apply rd_ix;exact rfl;exact rfl;exact rfl;exact rfl;omega)))<;>(conv=>whnf)))
      exact lp_next (a,mid,l2,_,ap,L) (by show mid - a < b - a;omega) (by (repeat' (first|exact trivial|(refine ⟨rfl,?_⟩)))) ⟨g1,by show mid≤N;omega,by show mid - a≤n;omega,hl2b,by show L.size=N;rw [h1.1];omega,k1,fun R r1 r2=>by obtain ⟨q1,q2⟩:=k2 R r1 r2;exact hF R (Sort.permIn_trans _ _ _ _ _ hP3 q1) q2,hp⟩
theorem pdq_any:∀n,PdqC n
 |0=>fun _ _ _ _ _ _ hba _ _ _ _=>absurd hba (Nat.not_lt_zero _)
 |n+1=>fun h _ _ _ hab hb hba hN hn hlm hB=>pdq_step (pdq_any n) h hab hb hba hN hn hlm hB
end Go.Proofs.YteabebmlclgakaaGreat
/- Sort7: slices.Sort at uint32: what it leaves. Of own rows of at most a million. -/
namespace Go.Proofs.YteabebmlclgakaaGreat
open Go.RowKit
set_option maxRecDepth 100000
set_option maxHeartbeats 4000000
theorem blen0_any {w0:World}:Calls Tryz.prog 201 #[.int .u64 0] w0 fun e w'=>e= .returned (i64 0)∧Chg N0 w0 w':=by
 have hp:=Hp.start (S:=N0) w0
 have h64:∀w0:World,Calls Tryz.prog 236 #[.int .u64 0] w0 fun e w'=>e= .returned (i64 0)∧Chg N0 w0 w':=fun w0=>by
  have hp:=Hp.start (S:=N0) w0
  refine calls_x (args:= [_]) tabOk Tryz.func236 Tryz.ntmps236 Tryz.results236 rfl (Nat.le_of_ble_eq_true rfl) ?_
  ((conv=>whnf);repeat' ((first|((with_reducible refine br_id ?_);((with_reducible refine br_dec (fun hx=>?_) (fun hx=>?_))<;>(try (exfalso;first|omega|contradiction))))|((with_reducible refine ar_id ?_);(refine ar_u8 (by omega) ?_))|((with_reducible refine gen_id ?_);((refine gen_len8 (j:=0) rfl Tryz.underlying9 rfl rfl (by omega) ?_))))<;>(conv=>whnf)))
  rw [show Lib.bitLen 0=0 from rfl]
  ((conv=>whnf);repeat' (((with_reducible refine ar_id ?_);(refine ar_i64 (by omega) ?_))<;>(conv=>whnf)))
  exact ps_val (v':=i64 (0+((0:Nat):Int))) rfl ⟨rfl,hp.chg⟩
 refine calls_x (args:= [_]) tabOk Tryz.func201 Tryz.ntmps201 Tryz.results201 rfl (Nat.le_of_ble_eq_true rfl) ?_
 ((conv=>whnf);repeat' ((first|((with_reducible refine br_id ?_);(with_reducible refine br_f ?_))|((with_reducible refine cl_id ?_);((refine cl_eq ((h64 _)) rfl rfl ?_;rintro e w ⟨rfl,hcc⟩;replace hp:=hp.call0 hcc;refine ⟨_,rfl,?_⟩))))<;>(conv=>whnf)))
 exact ps_val (v':=i64 0) rfl ⟨rfl,hp.chg⟩
theorem ssort0_any {w0:World} {A:Option Addr} {c:Nat}:Calls Tryz.prog 199 #[.slice A 0 c] w0 fun e w'=>e= .returned (.tuple #[])∧Chg N0 w0 w':=by
 have hp:=Hp.start (S:=N0) w0
 have us:=Tryz.underlying199
 have hins:∀w0:World,Calls Tryz.prog 249 #[.slice A 0 c,i64 0,i64 0] w0 fun e w'=>e= .returned (.tuple #[])∧Chg N0 w0 w':=fun w0=>by
  have hp:=Hp.start (S:=N0) w0
  refine calls_x (args:= [_,_,_]) tabOk Tryz.func249 Tryz.ntmps249 Tryz.results249 rfl (Nat.le_of_ble_eq_true rfl) ?_
  ((conv=>whnf);repeat' (((with_reducible refine ar_id ?_);(refine ar_i64 (by omega) ?_))<;>(conv=>whnf)))
  refine lp_inv (α:=Unit) (fun _=> [(2,i64 0),(6,i64 1)]) (fun _ w=>Hp N0 w0 w []) (fun _=>0) () (by (repeat' (first|exact trivial|(refine ⟨rfl,?_⟩)))) hp ?_
  rintro - e0 w hp
  ((conv=>whnf);repeat' (((with_reducible refine br_id ?_);((with_reducible refine br_dec (fun hx=>?_) (fun hx=>?_))<;>(try (exfalso;first|omega|contradiction))))<;>(conv=>whnf)))
  exact ps_val (v':= .tuple #[]) rfl ⟨rfl,hp.chg⟩
 have hpdq:∀w0:World,Calls Tryz.prog 226 #[.slice A 0 c,i64 0,i64 0,i64 0] w0 fun e w'=>e= .returned (.tuple #[])∧Chg N0 w0 w':=fun w0=>by
  have hp:=Hp.start (S:=N0) w0
  refine calls_x (args:= [_,_,_,_]) tabOk Tryz.func226 Tryz.ntmps226 Tryz.results226 rfl (Nat.le_of_ble_eq_true rfl) ?_
  ((conv=>whnf);repeat' ((first|((with_reducible refine br_id ?_);first|(with_reducible refine br_t ?_)|(with_reducible refine br_f ?_)|(with_reducible refine br_not ?_)|((with_reducible refine br_dec (fun hx=>?_) (fun hx=>?_))<;>(try (exfalso;first|omega|contradiction)))|((with_reducible refine br_eq (fun hx=>?_) (fun hx=>?_))<;>(try (exfalso;first|omega|contradiction)))|((with_reducible refine br_ne (fun hx=>?_) (fun hx=>?_))<;>(try (exfalso;first|omega|contradiction)))|((with_reducible refine br_s (fun hx=>?_) (fun hx=>?_))<;>(try (exfalso;first|omega|contradiction))))|((with_reducible refine ar_id ?_);first|(refine ar_i64 (by omega) ?_)|(refine ar_u32 (by omega) ?_)|(refine ar_u64 (by omega) ?_)|(refine ar_u8 (by omega) ?_))|((with_reducible refine cn_id ?_);first|(refine cn rfl ?_)|(refine cn ‹_› ?_)|(refine cn (by omega) ?_)|(refine cn (Chg.refl _ _) ?_))|((with_reducible refine ld_id ?_);first|(apply ld_hs hp;(focus repeat' constructor);exact rfl)|(refine ld_of ‹_› ?_))|((with_reducible refine ldn_id ?_);first|(apply lda_hs hp;(focus repeat' constructor);exact rfl)|(apply ldn_hs hp;(focus repeat' constructor);exact rfl;exact rfl))|((with_reducible refine al_id ?_);(refine al_cel hp ?_;clear hp;intro bb w hp))|((with_reducible refine st_id ?_);first|(apply sta_hs hp;(focus repeat' constructor);exact rfl;exact rfl;clear hp;intro w hp;(try dsimp only [List.set] at hp))|(apply st_hs hp;(focus repeat' constructor);exact rfl;exact rfl;clear hp;intro w hp;(try dsimp only [List.set] at hp)))|((with_reducible refine gen_id ?_);first|(apply gen_build;exact rfl;exact rfl)|(apply gen_len;exact rfl;exact rfl;assumption)|(apply gen_min;exact rfl;exact rfl;exact rfl)|(apply gen_max;exact rfl;exact rfl;exact rfl)|(apply gen_ix;exact rfl;exact rfl;exact rfl;exact rfl;omega)|(apply gen_ixa;exact rfl;exact rfl;exact rfl;exact rfl;omega))|((with_reducible refine dr_id ?_);first|(refine dr_auto tabOk (by kernel_rfl) (by decide+kernel) ?_;(try replace hp:=hp.drew))|(refine dr_autog tabOk (by kernel_rfl) (by decide+kernel) ?_;(try replace hp:=hp.drew))|(refine dr_autot tabOk (by kernel_rfl) (by decide+kernel) ?_;(try replace hp:=hp.drew)))|((with_reducible refine fk_id ?_);(refine fk_mk ?_ ?_))|((with_reducible refine rd_id ?_);first|(apply rd_len;exact rfl;exact rfl;assumption)|(apply rd_ix;exact rfl;exact rfl;exact rfl;exact rfl;omega)))<;>(conv=>whnf)))
  refine lp_inv (α:=Unit) (fun _=> [(0, .slice A 0 c),(1,i64 0),(2,i64 0)]) (fun _ w=>Hp N0 w0 w []) (fun _=>0) () (by (repeat' (first|exact trivial|(refine ⟨rfl,?_⟩)))) hp ?_
  rintro - e0 w hp
  ((conv=>whnf);repeat' ((first|((with_reducible refine br_id ?_);((with_reducible refine br_dec (fun hx=>?_) (fun hx=>?_))<;>(try (exfalso;first|omega|contradiction))))|((with_reducible refine ar_id ?_);(refine ar_i64 (by omega) ?_))|((with_reducible refine cl_id ?_);((refine cl_eq ((hins _)) rfl rfl ?_;rintro e w ⟨rfl,hcc⟩;replace hp:=hp.call0 hcc;refine ⟨_,rfl,?_⟩))))<;>(conv=>whnf)))
  exact ps_val (v':= .tuple #[]) rfl ⟨rfl,hp.chg⟩
 refine calls_x (args:= [_]) tabOk Tryz.func199 Tryz.ntmps199 Tryz.results199 rfl (Nat.le_of_ble_eq_true rfl) ?_
 ((conv=>whnf);repeat' ((first|((with_reducible refine ar_id ?_);(refine ar_u64 (by omega) ?_))|((with_reducible refine gen_id ?_);(apply gen_len;exact rfl;exact rfl;assumption))|((with_reducible refine cl_id ?_);first|((refine cl_eq ((hpdq _)) rfl rfl ?_;rintro e w ⟨rfl,hcc⟩;replace hp:=hp.call0 hcc;refine ⟨_,rfl,?_⟩))|((refine cl_eq (blen0_any) rfl rfl ?_;rintro e w ⟨rfl,hcc⟩;replace hp:=hp.call0 hcc;refine ⟨_,rfl,?_⟩))))<;>(conv=>whnf)))
 exact ps_val (v':= .tuple #[]) rfl ⟨rfl,hp.chg⟩
theorem ssort_any {w0:World} {s:Sl UInt32} (h:(rowR 24 1 u32L s).ok w0) (hn:s.l.length≤1000000):Calls Tryz.prog 199 #[s.v] w0 fun e w'=>e= .returned (.tuple #[])∧∃l':List UInt32,l'.Perm s.l∧l'.Pairwise (fun x y=>x.toNat≤y.toNat)∧Mut (rowR 24 1 u32L s) (rowR 24 1 u32L ⟨s.A,s.c,l'⟩) w0 w':=by
 by_cases h0:s.l= []
 ·have hv:s.v= .slice s.A 0 s.c:=by rw [Sl.v,h0];rfl
  rw [hv]
  refine Calls.mono ssort0_any ?_
  rintro e w ⟨rfl,hc⟩
  refine ⟨rfl,s.l, .refl _,by rw [h0];exact .nil,Mut.of0 h hc⟩
 ·have hl:0 < s.l.length:=List.length_pos_iff.2 h0
  obtain ⟨g,hg⟩:∃g,s.A=some ⟨g,0,none⟩:=by
   rcases (rowR_ok.1 h).1.2 with ⟨_,h4⟩|⟨g,cap,cur,h3,_⟩
   ·omega
   ·injection h3 with h3
    exact ⟨g,h3⟩
  obtain ⟨A,c,l⟩:=s
  dsimp only at hg h0 hl hn
  subst hg
  obtain ⟨d,rfl⟩:∃d:Array UInt32,l=d.toList:=⟨l.toArray,by simp⟩
  have hds:d.toList.length=d.size:=by simp
  have hp:=Hp.one h
  have us:=Tryz.underlying199
  rw [show Sl.v (α:=UInt32) ⟨some ⟨g,0,none⟩,c,d.toList⟩= .slice (some ⟨g,0,none⟩) d.size c by rw [Sl.v,hds]]
  refine calls_x (args:= [_]) tabOk Tryz.func199 Tryz.ntmps199 Tryz.results199 rfl (Nat.le_of_ble_eq_true rfl) ?_
  ((conv=>whnf);repeat' ((first|((with_reducible refine ar_id ?_);(refine ar_u64 (by omega) ?_))|((with_reducible refine gen_id ?_);(apply gen_len;exact rfl;exact rfl;assumption)))<;>(conv=>whnf)))
  refine cl_eq (blenS_any d.size (by omega) (by omega)) rfl rfl ?_
  rintro e w ⟨L,h1,h2,rfl,hcc⟩
  replace hp:=hp.call0 hcc
  refine ⟨_,rfl,?_⟩
  ((conv=>whnf);repeat' ((first|((with_reducible refine br_id ?_);first|(with_reducible refine br_t ?_)|(with_reducible refine br_f ?_)|(with_reducible refine br_not ?_)|((with_reducible refine br_dec (fun hx=>?_) (fun hx=>?_))<;>(try (exfalso;first|omega|contradiction)))|((with_reducible refine br_eq (fun hx=>?_) (fun hx=>?_))<;>(try (exfalso;first|omega|contradiction)))|((with_reducible refine br_ne (fun hx=>?_) (fun hx=>?_))<;>(try (exfalso;first|omega|contradiction)))|((with_reducible refine br_s (fun hx=>?_) (fun hx=>?_))<;>(try (exfalso;first|omega|contradiction))))|((with_reducible refine ar_id ?_);first|(refine ar_i64 (by omega) ?_)|(refine ar_u32 (by omega) ?_)|(refine ar_u64 (by omega) ?_)|(refine ar_u8 (by omega) ?_))|((with_reducible refine cn_id ?_);first|(refine cn rfl ?_)|(refine cn ‹_› ?_)|(refine cn (by omega) ?_)|(refine cn (Chg.refl _ _) ?_))|((with_reducible refine ld_id ?_);first|(apply ld_hs hp;(focus repeat' constructor);exact rfl)|(refine ld_of ‹_› ?_))|((with_reducible refine ldn_id ?_);first|(apply lda_hs hp;(focus repeat' constructor);exact rfl)|(apply ldn_hs hp;(focus repeat' constructor);exact rfl;exact rfl))|((with_reducible refine al_id ?_);(refine al_cel hp ?_;clear hp;intro bb w hp))|((with_reducible refine st_id ?_);first|(apply sta_hs hp;(focus repeat' constructor);exact rfl;exact rfl;clear hp;intro w hp;(try dsimp only [List.set] at hp))|(apply st_hs hp;(focus repeat' constructor);exact rfl;exact rfl;clear hp;intro w hp;(try dsimp only [List.set] at hp)))|((with_reducible refine gen_id ?_);first|(apply gen_build;exact rfl;exact rfl)|(apply gen_len;exact rfl;exact rfl;assumption)|(apply gen_min;exact rfl;exact rfl;exact rfl)|(apply gen_max;exact rfl;exact rfl;exact rfl)|(apply gen_ix;exact rfl;exact rfl;exact rfl;exact rfl;omega)|(apply gen_ixa;exact rfl;exact rfl;exact rfl;exact rfl;omega))|((with_reducible refine dr_id ?_);first|(refine dr_auto tabOk (by kernel_rfl) (by decide+kernel) ?_;(try replace hp:=hp.drew))|(refine dr_autog tabOk (by kernel_rfl) (by decide+kernel) ?_;(try replace hp:=hp.drew))|(refine dr_autot tabOk (by kernel_rfl) (by decide+kernel) ?_;(try replace hp:=hp.drew)))|((with_reducible refine fk_id ?_);(refine fk_mk ?_ ?_))|((with_reducible refine rd_id ?_);first|(apply rd_len;exact rfl;exact rfl;assumption)|(apply rd_ix;exact rfl;exact rfl;exact rfl;exact rfl;omega)))<;>(conv=>whnf)))
  refine cl_eq (pdq_any (d.size+1) (N:=d.size) (hp.get (j:=0) rfl) (a0:=0) (b0:=d.size) (lim0:=L) (Nat.zero_le _) (Nat.le_refl _) (by omega) rfl (by omega) (by omega) (.inl rfl)) rfl rfl ?_
  rintro e w ⟨R,hP,hS,rfl,hmt⟩
  replace hp:=hp.via (j:=0) rfl hmt
  dsimp only [List.set] at hp
  refine ⟨_,rfl,?_⟩
  ((conv=>whnf);repeat' ((first|((with_reducible refine br_id ?_);first|(with_reducible refine br_t ?_)|(with_reducible refine br_f ?_)|(with_reducible refine br_not ?_)|((with_reducible refine br_dec (fun hx=>?_) (fun hx=>?_))<;>(try (exfalso;first|omega|contradiction)))|((with_reducible refine br_eq (fun hx=>?_) (fun hx=>?_))<;>(try (exfalso;first|omega|contradiction)))|((with_reducible refine br_ne (fun hx=>?_) (fun hx=>?_))<;>(try (exfalso;first|omega|contradiction)))|((with_reducible refine br_s (fun hx=>?_) (fun hx=>?_))<;>(try (exfalso;first|omega|contradiction))))|((with_reducible refine ar_id ?_);first|(refine ar_i64 (by omega) ?_)|(refine ar_u32 (by omega) ?_)|(refine ar_u64 (by omega) ?_)|(refine ar_u8 (by omega) ?_))|((with_reducible refine cn_id ?_);first|(refine cn rfl ?_)|(refine cn ‹_› ?_)|(refine cn (by omega) ?_)|(refine cn (Chg.refl _ _) ?_))|((with_reducible refine ld_id ?_);first|(apply ld_hs hp;(focus repeat' constructor);exact rfl)|(refine ld_of ‹_› ?_))|((with_reducible refine ldn_id ?_);first|(apply lda_hs hp;(focus repeat' constructor);exact rfl)|(apply ldn_hs hp;(focus repeat' constructor);exact rfl;exact rfl))|((with_reducible refine al_id ?_);(refine al_cel hp ?_;clear hp;intro bb w hp))|((with_reducible refine st_id ?_);first|(apply sta_hs hp;(focus repeat' constructor);exact rfl;exact rfl;clear hp;intro w hp;(try dsimp only [List.set] at hp))|(apply st_hs hp;(focus repeat' constructor);exact rfl;exact rfl;clear hp;intro w hp;(try dsimp only [List.set] at hp)))|((with_reducible refine gen_id ?_);first|(apply gen_build;exact rfl;exact rfl)|(apply gen_len;exact rfl;exact rfl;assumption)|(apply gen_min;exact rfl;exact rfl;exact rfl)|(apply gen_max;exact rfl;exact rfl;exact rfl)|(apply gen_ix;exact rfl;exact rfl;exact rfl;exact rfl;omega)|(apply gen_ixa;exact rfl;exact rfl;exact rfl;exact rfl;omega))|((with_reducible refine dr_id ?_);first|(refine dr_auto tabOk (by kernel_rfl) (by decide+kernel) ?_;(try replace hp:=hp.drew))|(refine dr_autog tabOk (by kernel_rfl) (by decide+kernel) ?_;(try replace hp:=hp.drew))|(refine dr_autot tabOk (by kernel_rfl) (by decide+kernel) ?_;(try replace hp:=hp.drew)))|((with_reducible refine fk_id ?_);(refine fk_mk ?_ ?_))|((with_reducible refine rd_id ?_);first|(apply rd_len;exact rfl;exact rfl;assumption)|(apply rd_ix;exact rfl;exact rfl;exact rfl;exact rfl;omega)))<;>(conv=>whnf)))
  have hRs:R.size=d.size:=hP.1
  refine ps_val (v':= .tuple #[]) rfl ⟨rfl,R.toList,?_,?_,hp.shut1 (j:=0) rfl⟩
  ·have h3:=hP.2.2
   rwa [←hRs,Array.extract_size,hRs,Array.extract_size] at h3
  ·rw [List.pairwise_iff_getElem]
   intro i j hi hj hij
   have h3:=hS i j (Nat.zero_le _) hij (by simp at hj;omega)
   rw [Array.length_toList] at hi hj
   rw [getElem!_pos R j hj,getElem!_pos R i hi] at h3
   simp only [ltU,decide_eq_false_iff_not] at h3
   simp only [Array.getElem_toList]
   omega
end Go.Proofs.YteabebmlclgakaaGreat
