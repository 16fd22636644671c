/- Sort5: slices.Sort at uint32: partial insertion. Of own rows of at most a million. (printed by gen_pins.py) -/
import Derived.Test.YteabebmlclgakaaGreatMRespondAllsSort1
import Derived.Test.YteabebmlclgakaaGreatMRespondAll9
set_option linter.unusedSimpArgs false
set_option linter.unusedVariables false
namespace Go.Proofs.YteabebmlclgakaaGreat
open Go.RowKit
set_option maxRecDepth 100000
set_option maxHeartbeats 40000000
section
variable {w0 : World} {g c N : Nat} {d : Array UInt32}
theorem pins_any (h:(datR (some ⟨g,0,none⟩) c d).ok w0) {a b:Nat} (hab:a < b) (hb:b≤d.size) (hN:d.size=N) (hn:N≤1000000):Calls Tryz.prog 254 #[.slice (some ⟨g,0,none⟩) N c,i64 a,i64 b] w0 fun e w'=>e= .returned (.bool (Sort.partialInsertionSort ltU d a b).2)∧Mut (datR (some ⟨g,0,none⟩) c d) (datR (some ⟨g,0,none⟩) c (Sort.partialInsertionSort ltU d a b).1) w0 w':=by
 have hp:=Hp.one h
 have us:=Tryz.underlying199
 have hA:(dat (some ⟨g,0,none⟩) c d).A=some ⟨g,0,none⟩:=rfl
 obtain ⟨r,hr⟩:∃r,Sort.partialInsertionSort ltU d a b=r:=⟨_,rfl⟩
 have hF:Sort.partialIns ltU a b (5 - 0) (a+1) d=r:=hr
 rw [hr]
 clear hr
 refine calls_x (args:= [_,_,_]) tabOk Tryz.func254 Tryz.ntmps254 Tryz.results254 rfl (Nat.le_of_ble_eq_true rfl) ?_
 ((conv=>whnf);repeat' (((with_reducible refine ar_id ?_);((refine ar_n (a+1) (by omega) (by omega) ?_)))<;>(conv=>whnf)))
 refine lp_inv (α:=Nat×Nat×Array UInt32) (fun x=> [(0, .slice (some ⟨g,0,none⟩) N c),(1,i64 a),(2,i64 b),(7,i64 x.2.1),(8,i64 x.1)]) (fun x w=>x.1≤5∧a+1≤x.2.1∧x.2.1≤b∧x.2.2.size=N∧Sort.partialIns ltU a b (5 - x.1) x.2.1 x.2.2=r∧Hp (datR (some ⟨g,0,none⟩) c d).dom w0 w [datR (some ⟨g,0,none⟩) c x.2.2]) (fun x=>5 - x.1) (0,a+1,d) (by (repeat' (first|exact trivial|(refine ⟨rfl,?_⟩)))) ⟨by show 0≤5;omega,Nat.le_refl _,by show a+1≤b;omega,hN,hF,hp⟩ ?_
 clear hp hF
 rintro ⟨t,i,d1⟩ e0 w ⟨ht,hi1,hi2,hs1,hF,hp⟩
 dsimp only at ht hi1 hi2 hs1 hF hp ⊢
 rcases Nat.lt_or_ge t 5 with ht5|ht5
 ·rw [show 5 - t=(5 - (t+1))+1 by omega,Sort.partialIns_succ] at hF
  ((conv=>whnf);repeat' (((with_reducible refine br_id ?_);((with_reducible refine br_dec (fun hx=>?_) (fun hx=>?_))<;>(try (exfalso;first|omega|contradiction))))<;>(conv=>whnf)))
  obtain ⟨I,hI⟩:∃zz,Sort.scanSorted ltU d1 b i=zz:=⟨_,rfl⟩
  rw [hI] at hF
  refine lp_inv (α:=Nat) (fun x=> [(0, .slice (some ⟨g,0,none⟩) N c),(1,i64 a),(2,i64 b),(7,i64 x),(8,i64 t)]) (fun x w=>a+1≤x∧x≤b∧Sort.scanSorted ltU d1 b x=I∧Hp (datR (some ⟨g,0,none⟩) c d).dom w0 w [datR (some ⟨g,0,none⟩) c d1]) (fun x=>b - x) i (by (repeat' (first|exact trivial|(refine ⟨rfl,?_⟩)))) ⟨hi1,hi2,hI,hp⟩ ?_
  clear hp hI hi1 hi2 i
  rintro i2 e0 w ⟨hi1,hi2,hI,hp⟩
  dsimp only at hi1 hi2 hI hp ⊢
  rcases Nat.lt_or_ge i2 b with hib|hib
  ·obtain ⟨k2,hk2⟩:∃k,i2=k+1:=⟨i2 - 1,by omega⟩
   have hx1:=sat_ d1 (i:=i2) (by omega)
   have hx2:=sat_ d1 (i:=k2) (by omega)
   have hless:=fun w=>less_any w d1[i2]! d1[k2]!
   cases hl:ltU d1[i2]! d1[k2]! with
   |false=>
    rw [hl] at hless
    rw [sorted_go hib (by rw [hk2,Nat.add_sub_cancel,←hk2];exact hl)] at hI
    ((conv=>whnf);repeat' ((first|((with_reducible refine br_id ?_);first|(with_reducible refine br_t ?_)|(with_reducible refine br_f ?_)|(with_reducible refine br_not ?_)|((with_reducible refine br_dec (fun hx=>?_) (fun hx=>?_))<;>(try (exfalso;first|omega|contradiction))))|((with_reducible refine ar_id ?_);first|((refine ar_n (k2) (by omega) (by omega) ?_))|((refine ar_n (i2+1) (by omega) (by omega) ?_)))|((with_reducible refine ld_id ?_);((refine ld_own0 hp 0 rfl ‹_› _ rfl ‹_› (by rfl) ?_)))|((with_reducible refine dr_id ?_);(refine dr_auto tabOk (by kernel_rfl) (by decide+kernel) ?_;(try replace hp:=hp.drew)))|((with_reducible refine cl_id ?_);((refine cl_eq ((hless _)) rfl rfl ?_;rintro e w ⟨rfl,hcc⟩;replace hp:=hp.call0 hcc;refine ⟨_,rfl,?_⟩)))|((with_reducible refine rd_id ?_);((refine rd_ixs rfl rfl ‹_› rfl rfl (by omega) ?_))))<;>(conv=>whnf)))
    exact lp_next (i2+1) (by show b - (i2+1) < b - i2;omega) (by (repeat' (first|exact trivial|(refine ⟨rfl,?_⟩)))) ⟨by show a+1≤i2+1;omega,by show i2+1≤b;omega,hI,hp⟩
   |true=>
    rw [hl] at hless
    rw [sorted_stop (.inr (by rw [hk2,Nat.add_sub_cancel,←hk2];exact hl))] at hI
    subst hI
    rw [if_neg (by omega)] at hF
    by_cases h50:b - a < 50
    ·rw [if_pos h50] at hF
     ((conv=>whnf);repeat' ((first|((with_reducible refine br_id ?_);first|(with_reducible refine br_t ?_)|(with_reducible refine br_not ?_)|((with_reducible refine br_dec (fun hx=>?_) (fun hx=>?_))<;>(try (exfalso;first|omega|contradiction)))|((with_reducible refine br_eq (fun hx=>?_) (fun hx=>?_))<;>(try (exfalso;first|omega|contradiction))))|((with_reducible refine ar_id ?_);first|((refine ar_n (k2) (by omega) (by omega) ?_))|((refine ar_n (b - a) (by omega) (by omega) ?_)))|((with_reducible refine ld_id ?_);((refine ld_own0 hp 0 rfl ‹_› _ rfl ‹_› (by rfl) ?_)))|((with_reducible refine dr_id ?_);(refine dr_auto tabOk (by kernel_rfl) (by decide+kernel) ?_;(try replace hp:=hp.drew)))|((with_reducible refine cl_id ?_);((refine cl_eq ((hless _)) rfl rfl ?_;rintro e w ⟨rfl,hcc⟩;replace hp:=hp.call0 hcc;refine ⟨_,rfl,?_⟩)))|((with_reducible refine rd_id ?_);((refine rd_ixs rfl rfl ‹_› rfl rfl (by omega) ?_))))<;>(conv=>whnf)))
     rw [←hF]
     exact ps_val (v':= .bool false) rfl ⟨rfl,hp.shut1 (j:=0) rfl⟩
    ·rw [if_neg h50] at hF
     ((conv=>whnf);repeat' ((first|((with_reducible refine br_id ?_);first|(with_reducible refine br_t ?_)|(with_reducible refine br_f ?_)|(with_reducible refine br_not ?_)|((with_reducible refine br_dec (fun hx=>?_) (fun hx=>?_))<;>(try (exfalso;first|omega|contradiction)))|((with_reducible refine br_eq (fun hx=>?_) (fun hx=>?_))<;>(try (exfalso;first|omega|contradiction)))|((with_reducible refine br_ne (fun hx=>?_) (fun hx=>?_))<;>(try (exfalso;first|omega|contradiction)))|((with_reducible refine br_s (fun hx=>?_) (fun hx=>?_))<;>(try (exfalso;first|omega|contradiction))))|((with_reducible refine ar_id ?_);first|(refine ar_i64 (by omega) ?_)|(refine ar_u32 (by omega) ?_)|(refine ar_u64 (by omega) ?_)|(refine ar_u8 (by omega) ?_))|((with_reducible refine cn_id ?_);first|(refine cn rfl ?_)|(refine cn ‹_› ?_)|(refine cn (by omega) ?_)|(refine cn (Chg.refl _ _) ?_))|((with_reducible refine ld_id ?_);first|(apply ld_hs hp;(focus repeat' constructor);exact rfl)|(refine ld_of ‹_› ?_))|((with_reducible refine ldn_id ?_);first|(apply lda_hs hp;(focus repeat' constructor);exact rfl)|(apply ldn_hs hp;(focus repeat' constructor);exact rfl;exact rfl))|((with_reducible refine al_id ?_);(refine al_cel hp ?_;clear hp;intro bb w hp))|((with_reducible refine st_id ?_);first|(apply sta_hs hp;(focus repeat' constructor);exact rfl;exact rfl;clear hp;intro w hp;(try dsimp only [List.set] at hp))|(apply st_hs hp;(focus repeat' constructor);exact rfl;exact rfl;clear hp;intro w hp;(try dsimp only [List.set] at hp)))|((with_reducible refine gen_id ?_);first|(apply gen_build;exact rfl;exact rfl)|(apply gen_len;exact rfl;exact rfl;assumption)|(apply gen_min;exact rfl;exact rfl;exact rfl)|(apply gen_max;exact rfl;exact rfl;exact rfl)|(apply gen_ix;exact rfl;exact rfl;exact rfl;exact rfl;omega)|(apply gen_ixa;exact rfl;exact rfl;exact rfl;exact rfl;omega))|((with_reducible refine fk_id ?_);(refine fk_mk ?_ ?_))|((with_reducible refine rd_id ?_);first|(apply rd_len;exact rfl;exact rfl;assumption)|(apply rd_ix;exact rfl;exact rfl;exact rfl;exact rfl;omega)))<;>(conv=>whnf)))
     refine dr_auto tabOk (by kernel_rfl) (by decide+kernel) ?_
     replace hp:=hp.drew
     ((conv=>whnf);repeat' ((first|((with_reducible refine br_id ?_);first|(with_reducible refine br_t ?_)|(with_reducible refine br_not ?_)|((with_reducible refine br_dec (fun hx=>?_) (fun hx=>?_))<;>(try (exfalso;first|omega|contradiction)))|((with_reducible refine br_eq (fun hx=>?_) (fun hx=>?_))<;>(try (exfalso;first|omega|contradiction))))|((with_reducible refine ar_id ?_);first|((refine ar_n (k2) (by omega) (by omega) ?_))|((refine ar_n (b - a) (by omega) (by omega) ?_)))|((with_reducible refine ld_id ?_);((refine ld_own0 hp 0 rfl ‹_› _ rfl ‹_› (by rfl) ?_)))|((with_reducible refine cl_id ?_);((refine cl_eq ((hless _)) rfl rfl ?_;rintro e w ⟨rfl,hcc⟩;replace hp:=hp.call0 hcc;refine ⟨_,rfl,?_⟩)))|((with_reducible refine rd_id ?_);((refine rd_ixs rfl rfl ‹_› rfl rfl (by omega) ?_))))<;>(conv=>whnf)))
     refine dr_autos [4] 1000 tabOk (by kernel_rfl) (by decide+kernel) ?_
     replace hp:=hp.drew
     rw [show i2 - 1=k2 by omega] at hF
     by_cases h2:2≤i2 - a
     ·rw [show Sort.fixDown ltU a i2 (Sort.swp d1 i2 k2)=Sort.shiftDown ltU k2 (Sort.swp d1 i2 k2) from (if_pos h2).trans (by rw [show i2 - 1=k2 by omega])] at hF
      ((conv=>whnf);repeat' ((first|((with_reducible refine br_id ?_);((with_reducible refine br_dec (fun hx=>?_) (fun hx=>?_))<;>(try (exfalso;first|omega|contradiction))))|((with_reducible refine ar_id ?_);first|((refine ar_n (k2) (by omega) (by omega) ?_))|((refine ar_n (i2 - a) (by omega) (by omega) ?_)))|((with_reducible refine cn_id ?_);first|(refine cn rfl ?_)|(refine cn (Chg.refl _ _) ?_))|((with_reducible refine ld_id ?_);((refine ld_own0 hp 0 rfl ‹_› _ rfl ‹_› (by rfl) ?_)))|((with_reducible refine st_id ?_);first|((refine st_ownx hp 0 rfl rfl (i2) rfl d1[k2]! rfl (by simp only [List.length_set,Array.length_toList];omega) (fun _=>rfl) rfl ?_);clear hp;intro w hp;dsimp only [List.set] at hp)|((refine st_ownx hp 0 rfl rfl (k2) rfl d1[i2]! rfl (by simp only [List.length_set,Array.length_toList];omega) (fun _=>rfl) rfl ?_);clear hp;intro w hp;dsimp only [List.set] at hp))|((with_reducible refine fk_id ?_);(refine fk_mk ?_ ?_))|((with_reducible refine rd_id ?_);((refine rd_ixs rfl rfl ‹_› rfl rfl (by omega) ?_))))<;>(conv=>whnf)))
      all_goals rw [swp_l] at hp
      all_goals
       have hsd:(Sort.swp d1 i2 k2).size=N:=by rw [Sort.size_swp];exact hs1
       refine lp_inv (α:=Nat×Array UInt32) (fun x=> [(0, .slice (some ⟨g,0,none⟩) N c),(1,i64 a),(2,i64 b),(7,i64 i2),(8,i64 t),(9,i64 x.1)]) (fun x w=>x.1≤k2∧x.2.size=N∧Sort.partialIns ltU a b (5 - (t+1)) i2 (Sort.fixUp ltU b i2 (Sort.shiftDown ltU x.1 x.2))=r∧Hp (datR (some ⟨g,0,none⟩) c d).dom w0 w [datR (some ⟨g,0,none⟩) c x.2]) (fun x=>x.1) (k2,Sort.swp d1 i2 k2) (by (repeat' (first|exact trivial|(refine ⟨rfl,?_⟩)))) ⟨Nat.le_refl _,hsd,hF,hp⟩ ?_
       clear hp hF hsd
       rintro ⟨j,d3⟩ e0 w ⟨hj,hsD,hF,hp⟩
       dsimp only at hj hsD hF hp ⊢
       rcases j with _|k
       ·rw [show Sort.shiftDown ltU 0 d3=d3 from rfl] at hF
        by_cases h4:2≤b - i2
        ·rw [show Sort.fixUp ltU b i2 d3=Sort.shiftUp ltU b (i2+1) d3 from if_pos h4] at hF
         ((conv=>whnf);repeat' ((first|((with_reducible refine br_id ?_);((with_reducible refine br_dec (fun hx=>?_) (fun hx=>?_))<;>(try (exfalso;first|omega|contradiction))))|((with_reducible refine ar_id ?_);first|((refine ar_n (b - i2) (by omega) (by omega) ?_))|((refine ar_n (i2+1) (by omega) (by omega) ?_))))<;>(conv=>whnf)))
         all_goals
          refine lp_inv (α:=Nat×Array UInt32) (fun x=> [(0, .slice (some ⟨g,0,none⟩) N c),(1,i64 a),(2,i64 b),(7,i64 i2),(8,i64 t),(10,i64 x.1)]) (fun x w=>i2+1≤x.1∧x.1≤b∧x.2.size=N∧Sort.partialIns ltU a b (5 - (t+1)) i2 (Sort.shiftUp ltU b x.1 x.2)=r∧Hp (datR (some ⟨g,0,none⟩) c d).dom w0 w [datR (some ⟨g,0,none⟩) c x.2]) (fun x=>b - x.1) (i2+1,d3) (by (repeat' (first|exact trivial|(refine ⟨rfl,?_⟩)))) ⟨Nat.le_refl _,by show i2+1≤b;omega,hsD,hF,hp⟩ ?_
          clear hp hF
          rintro ⟨j,d4⟩ e0 w ⟨hj1,hj2,hs4,hF,hp⟩
          dsimp only at hj1 hj2 hs4 hF hp ⊢
          rcases Nat.lt_or_ge j b with hjb|hjb
          ·obtain ⟨k,rfl⟩:∃k,j=k+1:=⟨j - 1,by omega⟩
           have hx1:=sat_ d4 (i:=k+1) (by omega)
           have hx2:=sat_ d4 (i:=k) (by omega)
           have hless:=fun w=>less_any w d4[k+1]! d4[k]!
           cases hl:ltU d4[k+1]! d4[k]! with
           |false=>
            rw [hl] at hless
            rw [sup_stop (.inr (by rw [Nat.add_sub_cancel];exact hl))] at hF
            ((conv=>whnf);repeat' ((first|((with_reducible refine br_id ?_);first|(with_reducible refine br_f ?_)|(with_reducible refine br_not ?_)|((with_reducible refine br_dec (fun hx=>?_) (fun hx=>?_))<;>(try (exfalso;first|omega|contradiction))))|((with_reducible refine ar_id ?_);first|((refine ar_n (k) (by omega) (by omega) ?_))|((refine ar_n (t+1) (by omega) (by omega) ?_)))|((with_reducible refine ld_id ?_);((refine ld_own0 hp 0 rfl ‹_› _ rfl ‹_› (by rfl) ?_)))|((with_reducible refine dr_id ?_);(refine dr_auto tabOk (by kernel_rfl) (by decide+kernel) ?_;(try replace hp:=hp.drew)))|((with_reducible refine cl_id ?_);((refine cl_eq ((hless _)) rfl rfl ?_;rintro e w ⟨rfl,hcc⟩;replace hp:=hp.call0 hcc;refine ⟨_,rfl,?_⟩)))|((with_reducible refine rd_id ?_);((refine rd_ixs rfl rfl ‹_› rfl rfl (by omega) ?_))))<;>(conv=>whnf)))
            exact lp_next (t+1,i2,d4) (by show 5 - (t+1) < 5 - t;omega) (by (repeat' (first|exact trivial|(refine ⟨rfl,?_⟩)))) ⟨by show t+1≤5;omega,by show a+1≤i2;omega,by show i2≤b;omega,by first|assumption|(rw [Sort.size_swp];assumption),hF,hp⟩
           |true=>
            rw [hl] at hless
            rw [sup_go hjb (by rw [Nat.add_sub_cancel];exact hl),Nat.add_sub_cancel] at hF
            ((conv=>whnf);repeat' (((with_reducible refine br_id ?_);((with_reducible refine br_dec (fun hx=>?_) (fun hx=>?_))<;>(try (exfalso;first|omega|contradiction))))<;>(conv=>whnf)))
            refine dr_auto tabOk (by kernel_rfl) (by decide+kernel) ?_
            replace hp:=hp.drew
            ((conv=>whnf);repeat' ((first|((with_reducible refine br_id ?_);first|(with_reducible refine br_t ?_)|(with_reducible refine br_not ?_))|((with_reducible refine ar_id ?_);((refine ar_n (k) (by omega) (by omega) ?_)))|((with_reducible refine ld_id ?_);((refine ld_own0 hp 0 rfl ‹_› _ rfl ‹_› (by rfl) ?_)))|((with_reducible refine cl_id ?_);((refine cl_eq ((hless _)) rfl rfl ?_;rintro e w ⟨rfl,hcc⟩;replace hp:=hp.call0 hcc;refine ⟨_,rfl,?_⟩)))|((with_reducible refine rd_id ?_);((refine rd_ixs rfl rfl ‹_› rfl rfl (by omega) ?_))))<;>(conv=>whnf)))
            refine dr_autos [4] 1000 tabOk (by kernel_rfl) (by decide+kernel) ?_
            replace hp:=hp.drew
            ((conv=>whnf);repeat' ((first|((with_reducible refine ar_id ?_);first|((refine ar_n (k) (by omega) (by omega) ?_))|((refine ar_n (k+1+1) (by omega) (by omega) ?_)))|((with_reducible refine cn_id ?_);first|(refine cn rfl ?_)|(refine cn (Chg.refl _ _) ?_))|((with_reducible refine ld_id ?_);((refine ld_own0 hp 0 rfl ‹_› _ rfl ‹_› (by rfl) ?_)))|((with_reducible refine st_id ?_);first|((refine st_ownx hp 0 rfl rfl (k+1) rfl d4[k]! rfl (by simp only [List.length_set,Array.length_toList];omega) (fun _=>rfl) rfl ?_);clear hp;intro w hp;dsimp only [List.set] at hp)|((refine st_ownx hp 0 rfl rfl (k) rfl d4[k+1]! rfl (by simp only [List.length_set,Array.length_toList];omega) (fun _=>rfl) rfl ?_);clear hp;intro w hp;dsimp only [List.set] at hp))|((with_reducible refine fk_id ?_);(refine fk_mk ?_ ?_))|((with_reducible refine rd_id ?_);((refine rd_ixs rfl rfl ‹_› rfl rfl (by omega) ?_))))<;>(conv=>whnf)))
            all_goals rw [swp_l] at hp
            all_goals exact lp_next (k+1+1,Sort.swp d4 (k+1) k) (by show b - (k+1+1) < b - (k+1);omega) (by (repeat' (first|exact trivial|(refine ⟨rfl,?_⟩)))) ⟨by show i2+1≤k+1+1;omega,by show k+1+1≤b;omega,by rw [Sort.size_swp];exact hs4,hF,hp⟩
          ·rw [sup_stop (.inl hjb)] at hF
           ((conv=>whnf);repeat' ((first|((with_reducible refine br_id ?_);((with_reducible refine br_dec (fun hx=>?_) (fun hx=>?_))<;>(try (exfalso;first|omega|contradiction))))|((with_reducible refine ar_id ?_);((refine ar_n (t+1) (by omega) (by omega) ?_))))<;>(conv=>whnf)))
           exact lp_next (t+1,i2,d4) (by show 5 - (t+1) < 5 - t;omega) (by (repeat' (first|exact trivial|(refine ⟨rfl,?_⟩)))) ⟨by show t+1≤5;omega,by show a+1≤i2;omega,by show i2≤b;omega,by first|assumption|(rw [Sort.size_swp];assumption),hF,hp⟩
        ·rw [show Sort.fixUp ltU b i2 d3=d3 from if_neg h4] at hF
         ((conv=>whnf);repeat' ((first|((with_reducible refine br_id ?_);((with_reducible refine br_dec (fun hx=>?_) (fun hx=>?_))<;>(try (exfalso;first|omega|contradiction))))|((with_reducible refine ar_id ?_);first|((refine ar_n (b - i2) (by omega) (by omega) ?_))|((refine ar_n (t+1) (by omega) (by omega) ?_))))<;>(conv=>whnf)))
         all_goals exact lp_next (t+1,i2,d3) (by show 5 - (t+1) < 5 - t;omega) (by (repeat' (first|exact trivial|(refine ⟨rfl,?_⟩)))) ⟨by show t+1≤5;omega,by show a+1≤i2;omega,by show i2≤b;omega,by first|assumption|(rw [Sort.size_swp];assumption),hF,hp⟩
       ·have hx1:=sat_ d3 (i:=k+1) (by omega)
        have hx2:=sat_ d3 (i:=k) (by omega)
        have hless:=fun w=>less_any w d3[k+1]! d3[k]!
        cases hl3:ltU d3[k+1]! d3[k]! with
        |false=>
         rw [hl3] at hless
         rw [sdown_stop hl3] at hF
         by_cases h4:2≤b - i2
         ·rw [show Sort.fixUp ltU b i2 d3=Sort.shiftUp ltU b (i2+1) d3 from if_pos h4] at hF
          ((conv=>whnf);repeat' ((first|((with_reducible refine br_id ?_);first|(with_reducible refine br_f ?_)|(with_reducible refine br_not ?_)|((with_reducible refine br_dec (fun hx=>?_) (fun hx=>?_))<;>(try (exfalso;first|omega|contradiction))))|((with_reducible refine ar_id ?_);first|((refine ar_n (k) (by omega) (by omega) ?_))|((refine ar_n (b - i2) (by omega) (by omega) ?_))|((refine ar_n (i2+1) (by omega) (by omega) ?_)))|((with_reducible refine ld_id ?_);((refine ld_own0 hp 0 rfl ‹_› _ rfl ‹_› (by rfl) ?_)))|((with_reducible refine dr_id ?_);(refine dr_auto tabOk (by kernel_rfl) (by decide+kernel) ?_;(try replace hp:=hp.drew)))|((with_reducible refine cl_id ?_);((refine cl_eq ((hless _)) rfl rfl ?_;rintro e w ⟨rfl,hcc⟩;replace hp:=hp.call0 hcc;refine ⟨_,rfl,?_⟩)))|((with_reducible refine rd_id ?_);((refine rd_ixs rfl rfl ‹_› rfl rfl (by omega) ?_))))<;>(conv=>whnf)))
          all_goals
           refine lp_inv (α:=Nat×Array UInt32) (fun x=> [(0, .slice (some ⟨g,0,none⟩) N c),(1,i64 a),(2,i64 b),(7,i64 i2),(8,i64 t),(10,i64 x.1)]) (fun x w=>i2+1≤x.1∧x.1≤b∧x.2.size=N∧Sort.partialIns ltU a b (5 - (t+1)) i2 (Sort.shiftUp ltU b x.1 x.2)=r∧Hp (datR (some ⟨g,0,none⟩) c d).dom w0 w [datR (some ⟨g,0,none⟩) c x.2]) (fun x=>b - x.1) (i2+1,d3) (by (repeat' (first|exact trivial|(refine ⟨rfl,?_⟩)))) ⟨Nat.le_refl _,by show i2+1≤b;omega,hsD,hF,hp⟩ ?_
           clear hp hF
           rintro ⟨j,d4⟩ e0 w ⟨hj1,hj2,hs4,hF,hp⟩
           dsimp only at hj1 hj2 hs4 hF hp ⊢
           rcases Nat.lt_or_ge j b with hjb|hjb
           ·obtain ⟨k,rfl⟩:∃k,j=k+1:=⟨j - 1,by omega⟩
            have hx1:=sat_ d4 (i:=k+1) (by omega)
            have hx2:=sat_ d4 (i:=k) (by omega)
            have hless:=fun w=>less_any w d4[k+1]! d4[k]!
            cases hl:ltU d4[k+1]! d4[k]! with
            |false=>
             rw [hl] at hless
             rw [sup_stop (.inr (by rw [Nat.add_sub_cancel];exact hl))] at hF
             ((conv=>whnf);repeat' ((first|((with_reducible refine br_id ?_);first|(with_reducible refine br_f ?_)|(with_reducible refine br_not ?_)|((with_reducible refine br_dec (fun hx=>?_) (fun hx=>?_))<;>(try (exfalso;first|omega|contradiction))))|((with_reducible refine ar_id ?_);first|((refine ar_n (k) (by omega) (by omega) ?_))|((refine ar_n (t+1) (by omega) (by omega) ?_)))|((with_reducible refine ld_id ?_);((refine ld_own0 hp 0 rfl ‹_› _ rfl ‹_› (by rfl) ?_)))|((with_reducible refine dr_id ?_);(refine dr_auto tabOk (by kernel_rfl) (by decide+kernel) ?_;(try replace hp:=hp.drew)))|((with_reducible refine cl_id ?_);((refine cl_eq ((hless _)) rfl rfl ?_;rintro e w ⟨rfl,hcc⟩;replace hp:=hp.call0 hcc;refine ⟨_,rfl,?_⟩)))|((with_reducible refine rd_id ?_);((refine rd_ixs rfl rfl ‹_› rfl rfl (by omega) ?_))))<;>(conv=>whnf)))
             exact lp_next (t+1,i2,d4) (by show 5 - (t+1) < 5 - t;omega) (by (repeat' (first|exact trivial|(refine ⟨rfl,?_⟩)))) ⟨by show t+1≤5;omega,by show a+1≤i2;omega,by show i2≤b;omega,by first|assumption|(rw [Sort.size_swp];assumption),hF,hp⟩
            |true=>
             rw [hl] at hless
             rw [sup_go hjb (by rw [Nat.add_sub_cancel];exact hl),Nat.add_sub_cancel] at hF
             ((conv=>whnf);repeat' (((with_reducible refine br_id ?_);((with_reducible refine br_dec (fun hx=>?_) (fun hx=>?_))<;>(try (exfalso;first|omega|contradiction))))<;>(conv=>whnf)))
             refine dr_auto tabOk (by kernel_rfl) (by decide+kernel) ?_
             replace hp:=hp.drew
             ((conv=>whnf);repeat' ((first|((with_reducible refine br_id ?_);first|(with_reducible refine br_t ?_)|(with_reducible refine br_not ?_))|((with_reducible refine ar_id ?_);((refine ar_n (k) (by omega) (by omega) ?_)))|((with_reducible refine ld_id ?_);((refine ld_own0 hp 0 rfl ‹_› _ rfl ‹_› (by rfl) ?_)))|((with_reducible refine cl_id ?_);((refine cl_eq ((hless _)) rfl rfl ?_;rintro e w ⟨rfl,hcc⟩;replace hp:=hp.call0 hcc;refine ⟨_,rfl,?_⟩)))|((with_reducible refine rd_id ?_);((refine rd_ixs rfl rfl ‹_› rfl rfl (by omega) ?_))))<;>(conv=>whnf)))
             refine dr_autos [4] 1000 tabOk (by kernel_rfl) (by decide+kernel) ?_
             replace hp:=hp.drew
             ((conv=>whnf);repeat' ((first|((with_reducible refine ar_id ?_);first|((refine ar_n (k) (by omega) (by omega) ?_))|((refine ar_n (k+1+1) (by omega) (by omega) ?_)))|((with_reducible refine cn_id ?_);first|(refine cn rfl ?_)|(refine cn (Chg.refl _ _) ?_))|((with_reducible refine ld_id ?_);((refine ld_own0 hp 0 rfl ‹_› _ rfl ‹_› (by rfl) ?_)))|((with_reducible refine st_id ?_);first|((refine st_ownx hp 0 rfl rfl (k+1) rfl d4[k]! rfl (by simp only [List.length_set,Array.length_toList];omega) (fun _=>rfl) rfl ?_);clear hp;intro w hp;dsimp only [List.set] at hp)|((refine st_ownx hp 0 rfl rfl (k) rfl d4[k+1]! rfl (by simp only [List.length_set,Array.length_toList];omega) (fun _=>rfl) rfl ?_);clear hp;intro w hp;dsimp only [List.set] at hp))|((with_reducible refine fk_id ?_);(refine fk_mk ?_ ?_))|((with_reducible refine rd_id ?_);((refine rd_ixs rfl rfl ‹_› rfl rfl (by omega) ?_))))<;>(conv=>whnf)))
             all_goals rw [swp_l] at hp
             all_goals exact lp_next (k+1+1,Sort.swp d4 (k+1) k) (by show b - (k+1+1) < b - (k+1);omega) (by (repeat' (first|exact trivial|(refine ⟨rfl,?_⟩)))) ⟨by show i2+1≤k+1+1;omega,by show k+1+1≤b;omega,by rw [Sort.size_swp];exact hs4,hF,hp⟩
           ·rw [sup_stop (.inl hjb)] at hF
            ((conv=>whnf);repeat' ((first|((with_reducible refine br_id ?_);((with_reducible refine br_dec (fun hx=>?_) (fun hx=>?_))<;>(try (exfalso;first|omega|contradiction))))|((with_reducible refine ar_id ?_);((refine ar_n (t+1) (by omega) (by omega) ?_))))<;>(conv=>whnf)))
            exact lp_next (t+1,i2,d4) (by show 5 - (t+1) < 5 - t;omega) (by (repeat' (first|exact trivial|(refine ⟨rfl,?_⟩)))) ⟨by show t+1≤5;omega,by show a+1≤i2;omega,by show i2≤b;omega,by first|assumption|(rw [Sort.size_swp];assumption),hF,hp⟩
         ·rw [show Sort.fixUp ltU b i2 d3=d3 from if_neg h4] at hF
          ((conv=>whnf);repeat' ((first|((with_reducible refine br_id ?_);first|(with_reducible refine br_f ?_)|(with_reducible refine br_not ?_)|((with_reducible refine br_dec (fun hx=>?_) (fun hx=>?_))<;>(try (exfalso;first|omega|contradiction))))|((with_reducible refine ar_id ?_);first|((refine ar_n (k) (by omega) (by omega) ?_))|((refine ar_n (b - i2) (by omega) (by omega) ?_))|((refine ar_n (t+1) (by omega) (by omega) ?_)))|((with_reducible refine ld_id ?_);((refine ld_own0 hp 0 rfl ‹_› _ rfl ‹_› (by rfl) ?_)))|((with_reducible refine dr_id ?_);(refine dr_auto tabOk (by kernel_rfl) (by decide+kernel) ?_;(try replace hp:=hp.drew)))|((with_reducible refine cl_id ?_);((refine cl_eq ((hless _)) rfl rfl ?_;rintro e w ⟨rfl,hcc⟩;replace hp:=hp.call0 hcc;refine ⟨_,rfl,?_⟩)))|((with_reducible refine rd_id ?_);((refine rd_ixs rfl rfl ‹_› rfl rfl (by omega) ?_))))<;>(conv=>whnf)))
          all_goals exact lp_next (t+1,i2,d3) (by show 5 - (t+1) < 5 - t;omega) (by (repeat' (first|exact trivial|(refine ⟨rfl,?_⟩)))) ⟨by show t+1≤5;omega,by show a+1≤i2;omega,by show i2≤b;omega,by first|assumption|(rw [Sort.size_swp];assumption),hF,hp⟩
        |true=>
         rw [hl3] at hless
         rw [sdown_go hl3] at hF
         ((conv=>whnf);repeat' (((with_reducible refine br_id ?_);((with_reducible refine br_dec (fun hx=>?_) (fun hx=>?_))<;>(try (exfalso;first|omega|contradiction))))<;>(conv=>whnf)))
         refine dr_auto tabOk (by kernel_rfl) (by decide+kernel) ?_
         replace hp:=hp.drew
         ((conv=>whnf);repeat' ((first|((with_reducible refine br_id ?_);first|(with_reducible refine br_t ?_)|(with_reducible refine br_not ?_))|((with_reducible refine ar_id ?_);((refine ar_n (k) (by omega) (by omega) ?_)))|((with_reducible refine ld_id ?_);((refine ld_own0 hp 0 rfl ‹_› _ rfl ‹_› (by rfl) ?_)))|((with_reducible refine cl_id ?_);((refine cl_eq ((hless _)) rfl rfl ?_;rintro e w ⟨rfl,hcc⟩;replace hp:=hp.call0 hcc;refine ⟨_,rfl,?_⟩)))|((with_reducible refine rd_id ?_);((refine rd_ixs rfl rfl ‹_› rfl rfl (by omega) ?_))))<;>(conv=>whnf)))
         refine dr_autos [4] 1000 tabOk (by kernel_rfl) (by decide+kernel) ?_
         replace hp:=hp.drew
         ((conv=>whnf);repeat' ((first|((with_reducible refine ar_id ?_);((refine ar_n (k) (by omega) (by omega) ?_)))|((with_reducible refine cn_id ?_);first|(refine cn rfl ?_)|(refine cn (Chg.refl _ _) ?_))|((with_reducible refine ld_id ?_);((refine ld_own0 hp 0 rfl ‹_› _ rfl ‹_› (by rfl) ?_)))|((with_reducible refine st_id ?_);first|((refine st_ownx hp 0 rfl rfl (k+1) rfl d3[k]! rfl (by simp only [List.length_set,Array.length_toList];omega) (fun _=>rfl) rfl ?_);clear hp;intro w hp;dsimp only [List.set] at hp)|((refine st_ownx hp 0 rfl rfl (k) rfl d3[k+1]! rfl (by simp only [List.length_set,Array.length_toList];omega) (fun _=>rfl) rfl ?_);clear hp;intro w hp;dsimp only [List.set] at hp))|((with_reducible refine fk_id ?_);(refine fk_mk ?_ ?_))|((with_reducible refine rd_id ?_);((refine rd_ixs rfl rfl ‹_› rfl rfl (by omega) ?_))))<;>(conv=>whnf)))
         all_goals rw [swp_l] at hp
         all_goals exact lp_next (k,Sort.swp d3 (k+1) k) (by show k < k+1;omega) (by (repeat' (first|exact trivial|(refine ⟨rfl,?_⟩)))) ⟨by show k≤k2;omega,by rw [Sort.size_swp];exact hsD,hF,hp⟩
     ·rw [show Sort.fixDown ltU a i2 (Sort.swp d1 i2 k2)=Sort.swp d1 i2 k2 from if_neg h2] at hF
      have hsD:(Sort.swp d1 i2 k2).size=N:=by rw [Sort.size_swp];exact hs1
      by_cases h4:2≤b - i2
      ·rw [show Sort.fixUp ltU b i2 (Sort.swp d1 i2 k2)=Sort.shiftUp ltU b (i2+1) (Sort.swp d1 i2 k2) from if_pos h4] at hF
       ((conv=>whnf);repeat' ((first|((with_reducible refine br_id ?_);((with_reducible refine br_dec (fun hx=>?_) (fun hx=>?_))<;>(try (exfalso;first|omega|contradiction))))|((with_reducible refine ar_id ?_);first|((refine ar_n (k2) (by omega) (by omega) ?_))|((refine ar_n (i2 - a) (by omega) (by omega) ?_))|((refine ar_n (b - i2) (by omega) (by omega) ?_))|((refine ar_n (i2+1) (by omega) (by omega) ?_)))|((with_reducible refine cn_id ?_);first|(refine cn rfl ?_)|(refine cn (Chg.refl _ _) ?_))|((with_reducible refine ld_id ?_);((refine ld_own0 hp 0 rfl ‹_› _ rfl ‹_› (by rfl) ?_)))|((with_reducible refine st_id ?_);first|((refine st_ownx hp 0 rfl rfl (i2) rfl d1[k2]! rfl (by simp only [List.length_set,Array.length_toList];omega) (fun _=>rfl) rfl ?_);clear hp;intro w hp;dsimp only [List.set] at hp)|((refine st_ownx hp 0 rfl rfl (k2) rfl d1[i2]! rfl (by simp only [List.length_set,Array.length_toList];omega) (fun _=>rfl) rfl ?_);clear hp;intro w hp;dsimp only [List.set] at hp))|((with_reducible refine fk_id ?_);(refine fk_mk ?_ ?_))|((with_reducible refine rd_id ?_);((refine rd_ixs rfl rfl ‹_› rfl rfl (by omega) ?_))))<;>(conv=>whnf)))
       all_goals rw [swp_l] at hp
       all_goals
        refine lp_inv (α:=Nat×Array UInt32) (fun x=> [(0, .slice (some ⟨g,0,none⟩) N c),(1,i64 a),(2,i64 b),(7,i64 i2),(8,i64 t),(10,i64 x.1)]) (fun x w=>i2+1≤x.1∧x.1≤b∧x.2.size=N∧Sort.partialIns ltU a b (5 - (t+1)) i2 (Sort.shiftUp ltU b x.1 x.2)=r∧Hp (datR (some ⟨g,0,none⟩) c d).dom w0 w [datR (some ⟨g,0,none⟩) c x.2]) (fun x=>b - x.1) (i2+1,(Sort.swp d1 i2 k2)) (by (repeat' (first|exact trivial|(refine ⟨rfl,?_⟩)))) ⟨Nat.le_refl _,by show i2+1≤b;omega,hsD,hF,hp⟩ ?_
        clear hp hF
        rintro ⟨j,d4⟩ e0 w ⟨hj1,hj2,hs4,hF,hp⟩
        dsimp only at hj1 hj2 hs4 hF hp ⊢
        rcases Nat.lt_or_ge j b with hjb|hjb
        ·obtain ⟨k,rfl⟩:∃k,j=k+1:=⟨j - 1,by omega⟩
         have hx1:=sat_ d4 (i:=k+1) (by omega)
         have hx2:=sat_ d4 (i:=k) (by omega)
         have hless:=fun w=>less_any w d4[k+1]! d4[k]!
         cases hl:ltU d4[k+1]! d4[k]! with
         |false=>
          rw [hl] at hless
          rw [sup_stop (.inr (by rw [Nat.add_sub_cancel];exact hl))] at hF
          ((conv=>whnf);repeat' ((first|((with_reducible refine br_id ?_);first|(with_reducible refine br_f ?_)|(with_reducible refine br_not ?_)|((with_reducible refine br_dec (fun hx=>?_) (fun hx=>?_))<;>(try (exfalso;first|omega|contradiction))))|((with_reducible refine ar_id ?_);first|((refine ar_n (k) (by omega) (by omega) ?_))|((refine ar_n (t+1) (by omega) (by omega) ?_)))|((with_reducible refine ld_id ?_);((refine ld_own0 hp 0 rfl ‹_› _ rfl ‹_› (by rfl) ?_)))|((with_reducible refine dr_id ?_);(refine dr_auto tabOk (by kernel_rfl) (by decide+kernel) ?_;(try replace hp:=hp.drew)))|((with_reducible refine cl_id ?_);((refine cl_eq ((hless _)) rfl rfl ?_;rintro e w ⟨rfl,hcc⟩;replace hp:=hp.call0 hcc;refine ⟨_,rfl,?_⟩)))|((with_reducible refine rd_id ?_);((refine rd_ixs rfl rfl ‹_› rfl rfl (by omega) ?_))))<;>(conv=>whnf)))
          exact lp_next (t+1,i2,d4) (by show 5 - (t+1) < 5 - t;omega) (by (repeat' (first|exact trivial|(refine ⟨rfl,?_⟩)))) ⟨by show t+1≤5;omega,by show a+1≤i2;omega,by show i2≤b;omega,by first|assumption|(rw [Sort.size_swp];assumption),hF,hp⟩
         |true=>
          rw [hl] at hless
          rw [sup_go hjb (by rw [Nat.add_sub_cancel];exact hl),Nat.add_sub_cancel] at hF
          ((conv=>whnf);repeat' (((with_reducible refine br_id ?_);((with_reducible refine br_dec (fun hx=>?_) (fun hx=>?_))<;>(try (exfalso;first|omega|contradiction))))<;>(conv=>whnf)))
          refine dr_auto tabOk (by kernel_rfl) (by decide+kernel) ?_
          replace hp:=hp.drew
          ((conv=>whnf);repeat' ((first|((with_reducible refine br_id ?_);first|(with_reducible refine br_t ?_)|(with_reducible refine br_not ?_))|((with_reducible refine ar_id ?_);((refine ar_n (k) (by omega) (by omega) ?_)))|((with_reducible refine ld_id ?_);((refine ld_own0 hp 0 rfl ‹_› _ rfl ‹_› (by rfl) ?_)))|((with_reducible refine cl_id ?_);((refine cl_eq ((hless _)) rfl rfl ?_;rintro e w ⟨rfl,hcc⟩;replace hp:=hp.call0 hcc;refine ⟨_,rfl,?_⟩)))|((with_reducible refine rd_id ?_);((refine rd_ixs rfl rfl ‹_› rfl rfl (by omega) ?_))))<;>(conv=>whnf)))
          refine dr_autos [4] 1000 tabOk (by kernel_rfl) (by decide+kernel) ?_
          replace hp:=hp.drew
          ((conv=>whnf);repeat' ((first|((with_reducible refine ar_id ?_);first|((refine ar_n (k) (by omega) (by omega) ?_))|((refine ar_n (k+1+1) (by omega) (by omega) ?_)))|((with_reducible refine cn_id ?_);first|(refine cn rfl ?_)|(refine cn (Chg.refl _ _) ?_))|((with_reducible refine ld_id ?_);((refine ld_own0 hp 0 rfl ‹_› _ rfl ‹_› (by rfl) ?_)))|((with_reducible refine st_id ?_);first|((refine st_ownx hp 0 rfl rfl (k+1) rfl d4[k]! rfl (by simp only [List.length_set,Array.length_toList];omega) (fun _=>rfl) rfl ?_);clear hp;intro w hp;dsimp only [List.set] at hp)|((refine st_ownx hp 0 rfl rfl (k) rfl d4[k+1]! rfl (by simp only [List.length_set,Array.length_toList];omega) (fun _=>rfl) rfl ?_);clear hp;intro w hp;dsimp only [List.set] at hp))|((with_reducible refine fk_id ?_);(refine fk_mk ?_ ?_))|((with_reducible refine rd_id ?_);((refine rd_ixs rfl rfl ‹_› rfl rfl (by omega) ?_))))<;>(conv=>whnf)))
          all_goals rw [swp_l] at hp
          all_goals exact lp_next (k+1+1,Sort.swp d4 (k+1) k) (by show b - (k+1+1) < b - (k+1);omega) (by (repeat' (first|exact trivial|(refine ⟨rfl,?_⟩)))) ⟨by show i2+1≤k+1+1;omega,by show k+1+1≤b;omega,by rw [Sort.size_swp];exact hs4,hF,hp⟩
        ·rw [sup_stop (.inl hjb)] at hF
         ((conv=>whnf);repeat' ((first|((with_reducible refine br_id ?_);((with_reducible refine br_dec (fun hx=>?_) (fun hx=>?_))<;>(try (exfalso;first|omega|contradiction))))|((with_reducible refine ar_id ?_);((refine ar_n (t+1) (by omega) (by omega) ?_))))<;>(conv=>whnf)))
         exact lp_next (t+1,i2,d4) (by show 5 - (t+1) < 5 - t;omega) (by (repeat' (first|exact trivial|(refine ⟨rfl,?_⟩)))) ⟨by show t+1≤5;omega,by show a+1≤i2;omega,by show i2≤b;omega,by first|assumption|(rw [Sort.size_swp];assumption),hF,hp⟩
      ·rw [show Sort.fixUp ltU b i2 (Sort.swp d1 i2 k2)=(Sort.swp d1 i2 k2) from if_neg h4] at hF
       ((conv=>whnf);repeat' ((first|((with_reducible refine br_id ?_);((with_reducible refine br_dec (fun hx=>?_) (fun hx=>?_))<;>(try (exfalso;first|omega|contradiction))))|((with_reducible refine ar_id ?_);((refine ar_n (k2) (by omega) (by omega) ?_)))|((with_reducible refine cn_id ?_);first|(refine cn rfl ?_)|(refine cn (by omega) ?_))|((with_reducible refine ld_id ?_);((refine ld_own0 hp 0 rfl ‹_› _ rfl ‹_› (by rfl) ?_)))|((with_reducible refine st_id ?_);first|((refine st_ownx hp 0 rfl rfl (i2) rfl d1[k2]! rfl (by simp only [List.length_set,Array.length_toList];omega) (fun _=>rfl) rfl ?_);clear hp;intro w hp;dsimp only [List.set] at hp)|((refine st_ownx hp 0 rfl rfl (k2) rfl d1[i2]! rfl (by simp only [List.length_set,Array.length_toList];omega) (fun _=>rfl) rfl ?_);clear hp;intro w hp;dsimp only [List.set] at hp))|((with_reducible refine fk_id ?_);(refine fk_mk ?_ ?_))|((with_reducible refine rd_id ?_);((refine rd_ixs rfl rfl ‹_› rfl rfl (by omega) ?_))))<;>(conv=>whnf)))
       all_goals rw [swp_l] at hp
       all_goals exact lp_next (t+1,i2,(Sort.swp d1 i2 k2)) (by show 5 - (t+1) < 5 - t;omega) (by (repeat' (first|exact trivial|(refine ⟨rfl,?_⟩)))) ⟨by show t+1≤5;omega,by show a+1≤i2;omega,by show i2≤b;omega,by first|assumption|(rw [Sort.size_swp];assumption),hF,hp⟩
  ·obtain rfl:i2=b:=by omega
   rw [sorted_stop (.inl (Nat.le_refl _))] at hI
   subst hI
   rw [if_pos rfl] at hF
   ((conv=>whnf);repeat' ((first|((with_reducible refine br_id ?_);first|(with_reducible refine br_f ?_)|((with_reducible refine br_dec (fun hx=>?_) (fun hx=>?_))<;>(try (exfalso;first|omega|contradiction)))|((with_reducible refine br_eq (fun hx=>?_) (fun hx=>?_))<;>(try (exfalso;first|omega|contradiction))))|((with_reducible refine dr_id ?_);(refine dr_auto tabOk (by kernel_rfl) (by decide+kernel) ?_;(try replace hp:=hp.drew))))<;>(conv=>whnf)))
   rw [←hF]
   exact ps_val (v':= .bool true) rfl ⟨rfl,hp.shut1 (j:=0) rfl⟩
 ·obtain rfl:t=5:=by omega
  ((conv=>whnf);repeat' (((with_reducible refine br_id ?_);((with_reducible refine br_dec (fun hx=>?_) (fun hx=>?_))<;>(try (exfalso;first|omega|contradiction))))<;>(conv=>whnf)))
  rw [←hF]
  exact ps_val (v':= .bool false) rfl ⟨rfl,hp.shut1 (j:=0) rfl⟩
end
end Go.Proofs.YteabebmlclgakaaGreat
