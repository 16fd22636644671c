/- Sort4: slices.Sort at uint32: partition, partitionEqual. Of own rows of at most a million. (printed by gen_part.py) -/
import Derived.Test.YteabebmlclgakaaGreatMRespondAllsSort1
import Derived.Test.YteabebmlclgakaaGreatMRespondAll9
set_option linter.unusedSimpArgs false
set_option linter.unusedVariables false
namespace Go.Proofs.YteabebmlclgakaaGreat
open Go.RowKit
set_option maxRecDepth 100000
set_option maxHeartbeats 40000000
section
variable {w0 : World} {g c N : Nat} {d : Array UInt32}
theorem partLoop_eqU {a i j U V:Nat} {d:Array UInt32} (hU:Sort.scanUp (fun y=>ltU y d[a]!) d j i=U) (hV:Sort.scanDown (fun y=> !ltU y d[a]!) d U j=V):Sort.partLoop ltU a i j d=if V < U then (V,d) else Sort.partLoop ltU a (U+1) (V - 1) (Sort.swp d U V):=by
 rw [Sort.partLoop_eq,hU,hV]
theorem part_eqU {a m p U V:Nat} {d:Array UInt32} (hU:Sort.scanUp (fun y=>ltU y (Sort.swp d a p)[a]!) (Sort.swp d a p) m (a+1)=U) (hV:Sort.scanDown (fun y=> !ltU y (Sort.swp d a p)[a]!) (Sort.swp d a p) U m=V):
  Sort.partition ltU d a (m+1) p=if V < U then (V,true,Sort.swp (Sort.swp d a p) V a) else ((Sort.partLoop ltU a (U+1) (V - 1) (Sort.swp (Sort.swp d a p) U V)).1,false,Sort.swp (Sort.partLoop ltU a (U+1) (V - 1) (Sort.swp (Sort.swp d a p) U V)).2 (Sort.partLoop ltU a (U+1) (V - 1) (Sort.swp (Sort.swp d a p) U V)).1 a):=by
 unfold Sort.partition
 simp only [Nat.add_sub_cancel,hU,hV]
theorem part_any (h:(datR (some ⟨g,0,none⟩) c d).ok w0) {a b p:Nat} (hap:a≤p) (hpb:p < b) (hb:b≤d.size) (hN:d.size=N) (hn:N≤1000000):Calls Tryz.prog 257 #[.slice (some ⟨g,0,none⟩) N c,i64 a,i64 b,i64 p] w0 fun e w'=>e= .returned (.tuple #[i64 (Sort.partition ltU d a b p).1, .bool (Sort.partition ltU d a b p).2.1])∧Mut (datR (some ⟨g,0,none⟩) c d) (datR (some ⟨g,0,none⟩) c (Sort.partition ltU d a b p).2.2) w0 w':=by
 have hp:=Hp.one h
 have us:=Tryz.underlying199
 have hA:(dat (some ⟨g,0,none⟩) c d).A=some ⟨g,0,none⟩:=rfl
 obtain ⟨m,rfl⟩:∃m,b=m+1:=⟨b - 1,by omega⟩
 have hx1:=sat_ d (i:=a) (by omega)
 have hx2:=sat_ d (i:=p) (by omega)
 refine calls_x (args:= [_,_,_,_]) tabOk Tryz.func257 Tryz.ntmps257 Tryz.results257 rfl (Nat.le_of_ble_eq_true rfl) ?_
 revert hp
 apply lp_share (fun e w=>∃i j:Nat,∃d2:Array UInt32,holds [(0, .slice (some ⟨g,0,none⟩) N c),(1,i64 a),(10,i64 i),(11,i64 j)] e∧e.ds= []∧a < i∧i≤j+1∧j≤m∧d2.size=N∧(let r:=Sort.partLoop ltU a i j d2;(Sort.partition ltU d a (m+1) p).1=r.1∧(Sort.partition ltU d a (m+1) p).2.1=false∧(Sort.partition ltU d a (m+1) p).2.2=Sort.swp r.2 r.1 a)∧Hp (datR (some ⟨g,0,none⟩) c d).dom w0 w [datR (some ⟨g,0,none⟩) c d2])
 ·intro tail hp
  ((conv=>whnf);repeat' ((first|((with_reducible refine br_id ?_);first|(with_reducible refine br_t ?_)|(with_reducible refine br_f ?_)|(with_reducible refine br_not ?_)|((with_reducible refine br_dec (fun hx=>?_) (fun hx=>?_))<;>(try (exfalso;first|omega|contradiction)))|((with_reducible refine br_eq (fun hx=>?_) (fun hx=>?_))<;>(try (exfalso;first|omega|contradiction)))|((with_reducible refine br_ne (fun hx=>?_) (fun hx=>?_))<;>(try (exfalso;first|omega|contradiction)))|((with_reducible refine br_s (fun hx=>?_) (fun hx=>?_))<;>(try (exfalso;first|omega|contradiction))))|((with_reducible refine ar_id ?_);first|(refine ar_i64 (by omega) ?_)|(refine ar_u32 (by omega) ?_)|(refine ar_u64 (by omega) ?_)|(refine ar_u8 (by omega) ?_))|((with_reducible refine cn_id ?_);first|(refine cn rfl ?_)|(refine cn ‹_› ?_)|(refine cn (by omega) ?_)|(refine cn (Chg.refl _ _) ?_))|((with_reducible refine ld_id ?_);first|(apply ld_hs hp;(focus repeat' constructor);exact rfl)|(refine ld_of ‹_› ?_))|((with_reducible refine ldn_id ?_);first|(apply lda_hs hp;(focus repeat' constructor);exact rfl)|(apply ldn_hs hp;(focus repeat' constructor);exact rfl;exact rfl))|((with_reducible refine al_id ?_);(refine al_cel hp ?_;clear hp;intro bb w hp))|((with_reducible refine st_id ?_);first|(apply sta_hs hp;(focus repeat' constructor);exact rfl;exact rfl;clear hp;intro w hp;(try dsimp only [List.set] at hp))|(apply st_hs hp;(focus repeat' constructor);exact rfl;exact rfl;clear hp;intro w hp;(try dsimp only [List.set] at hp)))|((with_reducible refine gen_id ?_);first|(apply gen_build;exact rfl;exact rfl)|(apply gen_len;exact rfl;exact rfl;assumption)|(apply gen_min;exact rfl;exact rfl;exact rfl)|(apply gen_max;exact rfl;exact rfl;exact rfl)|(apply gen_ix;exact rfl;exact rfl;exact rfl;exact rfl;omega)|(apply gen_ixa;exact rfl;exact rfl;exact rfl;exact rfl;omega))|((with_reducible refine fk_id ?_);(refine fk_mk ?_ ?_))|((with_reducible refine rd_id ?_);first|(apply rd_len;exact rfl;exact rfl;assumption)|(apply rd_ix;exact rfl;exact rfl;exact rfl;exact rfl;omega)))<;>(conv=>whnf)))
  refine dr_auto tabOk (by kernel_rfl) (by decide+kernel) ?_
  replace hp:=hp.drew
  ((conv=>whnf);repeat' ((first|((with_reducible refine ar_id ?_);first|((refine ar_n (a+1) (by omega) (by omega) ?_))|((refine ar_n (m) (by omega) (by omega) ?_)))|((with_reducible refine cn_id ?_);(refine cn rfl ?_))|((with_reducible refine ld_id ?_);((refine ld_own0 hp 0 rfl ‹_› _ rfl ‹_› (by rfl) ?_)))|((with_reducible refine st_id ?_);first|((refine st_ownx hp 0 rfl rfl (a) rfl d[p]! rfl (by simp only [List.length_set,Array.length_toList];omega) (fun _=>rfl) rfl ?_);clear hp;intro w hp;dsimp only [List.set] at hp)|((refine st_ownx hp 0 rfl rfl (p) rfl d[a]! rfl (by simp only [List.length_set,Array.length_toList];omega) (fun _=>rfl) rfl ?_);clear hp;intro w hp;dsimp only [List.set] at hp))|((with_reducible refine gen_id ?_);((refine gen_ixs rfl rfl ‹_› rfl rfl (by omega) ?_)))|((with_reducible refine rd_id ?_);((refine rd_ixs rfl rfl ‹_› rfl rfl (by omega) ?_))))<;>(conv=>whnf)))
  all_goals rw [swp_l] at hp
  all_goals
   obtain ⟨d1,hd1⟩:∃y,y=Sort.swp d a p:=⟨_,rfl⟩
   have hs1:d1.size=N:=by rw [hd1,Sort.size_swp];exact hN
   rw [←hd1] at hp
   have part_eqU:=fun {U V:Nat} (hU:Sort.scanUp (fun y=>ltU y d1[a]!) d1 m (a+1)=U) (hV:Sort.scanDown (fun y=> !ltU y d1[a]!) d1 U m=V)=>part_eqU (d:=d) (p:=p) (hd1▸hU) (hd1▸hV)
   rw [←hd1] at part_eqU
   obtain ⟨U,hU⟩:∃zz,Sort.scanUp (fun y=>ltU y d1[a]!) d1 (m) (a+1)=zz:=⟨_,rfl⟩
   refine lp_inv (α:=Nat) (fun x=> [(0, .slice (some ⟨g,0,none⟩) N c),(1,i64 a),(10,i64 x),(11,i64 (m:Nat))]) (fun x w=>a+1≤x∧x≤m+1∧Sort.scanUp (fun y=>ltU y d1[a]!) d1 (m) x=U∧Hp (datR (some ⟨g,0,none⟩) c d).dom w0 w [datR (some ⟨g,0,none⟩) c d1]) (fun x=>m+1 - x) (a+1) (by (repeat' (first|exact trivial|(refine ⟨rfl,?_⟩)))) ⟨Nat.le_refl _,by show _≤_;omega,hU,hp⟩ ?_
   clear hp
   rintro x e0 w ⟨hx0,hx1,hsc,hp⟩
   dsimp only at hx0 hx1 hsc hp ⊢
   have hxa:=sat_ d1 (i:=a) (by omega)
   by_cases hgo:x≤m∧ltU d1[x]! d1[a]! =true
   ·have hxx:=sat_ d1 (i:=x) (by omega)
    have hless:=fun w=>less_any w d1[x]! d1[a]!
    rw [hgo.2] at hless
    rw [up_go hgo.1 (by simp [hgo.2])] at hsc
    ((conv=>whnf);repeat' ((first|((with_reducible refine br_id ?_);first|(with_reducible refine br_t ?_)|((with_reducible refine br_dec (fun hx=>?_) (fun hx=>?_))<;>(try (exfalso;first|omega|contradiction))))|((with_reducible refine ar_id ?_);((refine ar_n (x+1) (by omega) (by omega) ?_)))|((with_reducible refine ld_id ?_);((refine ld_own0 hp 0 rfl ‹_› _ rfl ‹_› (by rfl) ?_)))|((with_reducible refine dr_id ?_);(refine dr_auto tabOk (by kernel_rfl) (by decide+kernel) ?_;(try replace hp:=hp.drew)))|((with_reducible refine cl_id ?_);((refine cl_eq ((hless _)) rfl rfl ?_;rintro e w ⟨rfl,hcc⟩;replace hp:=hp.call0 hcc;refine ⟨_,rfl,?_⟩)))|((with_reducible refine rd_id ?_);((refine rd_ixs rfl rfl ‹_› rfl rfl (by omega) ?_))))<;>(conv=>whnf)))
    all_goals exact lp_next (x+1) (by show m+1 - (x+1) < m+1 - x;omega) (by (repeat' (first|exact trivial|(refine ⟨rfl,?_⟩)))) ⟨by show a+1≤x+1;omega,by show x+1≤m+1;omega,hsc,hp⟩
   ·have hsU:x≤m→ltU d1[x]! d1[a]! =false:=fun h1=>by
     cases hl:ltU d1[x]! d1[a]! with
     |true=>exact absurd ⟨h1,hl⟩ hgo
     |false=>rfl
    have hxx:x≤m→d1.toList[x]? =some d1[x]! :=fun h1=>sat_ d1 (i:=x) (by omega)
    have hless:=fun (h1:x≤m) w=>less_any w d1[x]! d1[a]!
    have hless2:x≤m→∀w,Calls Tryz.prog 255 #[u32 d1[x]!,u32 d1[a]!] w fun e w'=>e= .returned (.bool false)∧Chg N0 w w':=fun h1 w=>by
     have:=hless h1 w
     rwa [hsU h1] at this
    rw [up_stop (by
     rcases Nat.lt_or_ge m x with h1|h1
     ·exact .inl h1
     ·exact .inr (by simp [hsU h1]))] at hsc
    obtain rfl:U=x:=hsc.symm
    clear hgo hless
    ((conv=>whnf);repeat' ((first|((with_reducible refine br_id ?_);first|(with_reducible refine br_t ?_)|(with_reducible refine br_f ?_)|(with_reducible refine br_not ?_)|((with_reducible refine br_dec (fun hx=>?_) (fun hx=>?_))<;>(try (exfalso;first|omega|contradiction)))|((with_reducible refine br_eq (fun hx=>?_) (fun hx=>?_))<;>(try (exfalso;first|omega|contradiction)))|((with_reducible refine br_ne (fun hx=>?_) (fun hx=>?_))<;>(try (exfalso;first|omega|contradiction)))|((with_reducible refine br_s (fun hx=>?_) (fun hx=>?_))<;>(try (exfalso;first|omega|contradiction))))|((with_reducible refine ar_id ?_);first|(refine ar_i64 (by omega) ?_)|(refine ar_u32 (by omega) ?_)|(refine ar_u64 (by omega) ?_)|(refine ar_u8 (by omega) ?_))|((with_reducible refine cn_id ?_);first|(refine cn rfl ?_)|(refine cn ‹_› ?_)|(refine cn (by omega) ?_)|(refine cn (Chg.refl _ _) ?_))|((with_reducible refine ld_id ?_);first|(apply ld_hs hp;(focus repeat' constructor);exact rfl)|(refine ld_of ‹_› ?_))|((with_reducible refine ldn_id ?_);first|(apply lda_hs hp;(focus repeat' constructor);exact rfl)|(apply ldn_hs hp;(focus repeat' constructor);exact rfl;exact rfl))|((with_reducible refine al_id ?_);(refine al_cel hp ?_;clear hp;intro bb w hp))|((with_reducible refine st_id ?_);first|(apply sta_hs hp;(focus repeat' constructor);exact rfl;exact rfl;clear hp;intro w hp;(try dsimp only [List.set] at hp))|(apply st_hs hp;(focus repeat' constructor);exact rfl;exact rfl;clear hp;intro w hp;(try dsimp only [List.set] at hp)))|((with_reducible refine gen_id ?_);first|(apply gen_build;exact rfl;exact rfl)|(apply gen_len;exact rfl;exact rfl;assumption)|(apply gen_min;exact rfl;exact rfl;exact rfl)|(apply gen_max;exact rfl;exact rfl;exact rfl)|(apply gen_ix;exact rfl;exact rfl;exact rfl;exact rfl;omega)|(apply gen_ixa;exact rfl;exact rfl;exact rfl;exact rfl;omega))|((with_reducible refine fk_id ?_);(refine fk_mk ?_ ?_))|((with_reducible refine rd_id ?_);first|(apply rd_len;exact rfl;exact rfl;assumption)|(apply rd_ix;exact rfl;exact rfl;exact rfl;exact rfl;omega)))<;>(conv=>whnf)))
    refine dr_auto tabOk (by kernel_rfl) (by decide+kernel) ?_
    replace hp:=hp.drew
    ((conv=>whnf);repeat' ((first|((with_reducible refine br_id ?_);first|(with_reducible refine br_t ?_)|(with_reducible refine br_f ?_)|((with_reducible refine br_dec (fun hx=>?_) (fun hx=>?_))<;>(try (exfalso;first|omega|contradiction))))|((with_reducible refine ld_id ?_);first|((refine ld_own0 hp 0 rfl rfl _ rfl (hxx (by omega)) rfl ?_))|((refine ld_own0 hp 0 rfl ‹_› _ rfl ‹_› (by rfl) ?_)))|((with_reducible refine cl_id ?_);((refine cl_eq ((hless2 (by omega) _)) rfl rfl ?_;rintro e w ⟨rfl,hcc⟩;replace hp:=hp.call0 hcc;refine ⟨_,rfl,?_⟩)))|((with_reducible refine rd_id ?_);((refine rd_ixs rfl rfl ‹_› rfl rfl (by omega) ?_))))<;>(conv=>whnf)))
    all_goals
     clear hless2 hxx
     obtain ⟨V,hV⟩:∃zz,Sort.scanDown (fun y=> !ltU y d1[a]!) d1 (U) (m)=zz:=⟨_,rfl⟩
     refine lp_inv (α:=Nat) (fun x=> [(0, .slice (some ⟨g,0,none⟩) N c),(1,i64 a),(10,i64 (U:Nat)),(11,i64 x)]) (fun x w=>U≤x+1∧x≤m∧Sort.scanDown (fun y=> !ltU y d1[a]!) d1 (U) x=V∧Hp (datR (some ⟨g,0,none⟩) c d).dom w0 w [datR (some ⟨g,0,none⟩) c d1]) (fun x=>x) (m) (by (repeat' (first|exact trivial|(refine ⟨rfl,?_⟩)))) ⟨by show _≤_;omega,Nat.le_refl _,hV,hp⟩ ?_
     clear hp
     rintro x e0 w ⟨hx0,hx1,hsc,hp⟩
     dsimp only at hx0 hx1 hsc hp ⊢
     have hxa:=sat_ d1 (i:=a) (by omega)
     by_cases hgo:U≤x∧ltU d1[x]! d1[a]! =false
     ·have hxx:=sat_ d1 (i:=x) (by omega)
      have hless:=fun w=>less_any w d1[x]! d1[a]!
      rw [hgo.2] at hless
      obtain ⟨k,hk⟩:∃k,x=k+1:=⟨x - 1,by omega⟩
      subst hk
      rw [down_go hgo.1 (by simp [hgo.2])] at hsc
      ((conv=>whnf);repeat' ((first|((with_reducible refine br_id ?_);first|(with_reducible refine br_t ?_)|(with_reducible refine br_f ?_)|(with_reducible refine br_not ?_)|((with_reducible refine br_dec (fun hx=>?_) (fun hx=>?_))<;>(try (exfalso;first|omega|contradiction))))|((with_reducible refine ar_id ?_);((refine ar_n (k) (by omega) (by omega) ?_)))|((with_reducible refine ld_id ?_);((refine ld_own0 hp 0 rfl ‹_› _ rfl ‹_› (by rfl) ?_)))|((with_reducible refine dr_id ?_);(refine dr_auto tabOk (by kernel_rfl) (by decide+kernel) ?_;(try replace hp:=hp.drew)))|((with_reducible refine cl_id ?_);((refine cl_eq ((hless _)) rfl rfl ?_;rintro e w ⟨rfl,hcc⟩;replace hp:=hp.call0 hcc;refine ⟨_,rfl,?_⟩)))|((with_reducible refine rd_id ?_);((refine rd_ixs rfl rfl ‹_› rfl rfl (by omega) ?_))))<;>(conv=>whnf)))
      all_goals exact lp_next k (by show k < k+1;omega) (by (repeat' (first|exact trivial|(refine ⟨rfl,?_⟩)))) ⟨by show U≤k+1;omega,by show k≤m;omega,hsc,hp⟩
     ·have hsV:U≤x→ltU d1[x]! d1[a]! =true:=fun h1=>by
       cases hl:ltU d1[x]! d1[a]! with
       |false=>exact absurd ⟨h1,hl⟩ hgo
       |true=>rfl
      have hxx:U≤x→d1.toList[x]? =some d1[x]! :=fun h1=>sat_ d1 (i:=x) (by omega)
      have hless:=fun (h1:U≤x) w=>less_any w d1[x]! d1[a]!
      have hless2:U≤x→∀w,Calls Tryz.prog 255 #[u32 d1[x]!,u32 d1[a]!] w fun e w'=>e= .returned (.bool true)∧Chg N0 w w':=fun h1 w=>by
       have:=hless h1 w
       rwa [hsV h1] at this
      rw [down_stop (by
       rcases Nat.lt_or_ge x (U) with h1|h1
       ·exact .inr (.inl h1)
       ·exact .inr (.inr (by simp [hsV h1])))] at hsc
      obtain rfl:V=x:=hsc.symm
      clear hgo hless
      by_cases hUV:V < U
      ·((conv=>whnf);repeat' ((first|((with_reducible refine br_id ?_);first|(with_reducible refine br_t ?_)|(with_reducible refine br_f ?_)|(with_reducible refine br_not ?_)|((with_reducible refine br_dec (fun hx=>?_) (fun hx=>?_))<;>(try (exfalso;first|omega|contradiction)))|((with_reducible refine br_eq (fun hx=>?_) (fun hx=>?_))<;>(try (exfalso;first|omega|contradiction)))|((with_reducible refine br_ne (fun hx=>?_) (fun hx=>?_))<;>(try (exfalso;first|omega|contradiction)))|((with_reducible refine br_s (fun hx=>?_) (fun hx=>?_))<;>(try (exfalso;first|omega|contradiction))))|((with_reducible refine ar_id ?_);first|(refine ar_i64 (by omega) ?_)|(refine ar_u32 (by omega) ?_)|(refine ar_u64 (by omega) ?_)|(refine ar_u8 (by omega) ?_))|((with_reducible refine cn_id ?_);first|(refine cn rfl ?_)|(refine cn ‹_› ?_)|(refine cn (by omega) ?_)|(refine cn (Chg.refl _ _) ?_))|((with_reducible refine ld_id ?_);first|(apply ld_hs hp;(focus repeat' constructor);exact rfl)|(refine ld_of ‹_› ?_))|((with_reducible refine ldn_id ?_);first|(apply lda_hs hp;(focus repeat' constructor);exact rfl)|(apply ldn_hs hp;(focus repeat' constructor);exact rfl;exact rfl))|((with_reducible refine al_id ?_);(refine al_cel hp ?_;clear hp;intro bb w hp))|((with_reducible refine st_id ?_);first|(apply sta_hs hp;(focus repeat' constructor);exact rfl;exact rfl;clear hp;intro w hp;(try dsimp only [List.set] at hp))|(apply st_hs hp;(focus repeat' constructor);exact rfl;exact rfl;clear hp;intro w hp;(try dsimp only [List.set] at hp)))|((with_reducible refine gen_id ?_);first|(apply gen_build;exact rfl;exact rfl)|(apply gen_len;exact rfl;exact rfl;assumption)|(apply gen_min;exact rfl;exact rfl;exact rfl)|(apply gen_max;exact rfl;exact rfl;exact rfl)|(apply gen_ix;exact rfl;exact rfl;exact rfl;exact rfl;omega)|(apply gen_ixa;exact rfl;exact rfl;exact rfl;exact rfl;omega))|((with_reducible refine fk_id ?_);(refine fk_mk ?_ ?_))|((with_reducible refine rd_id ?_);first|(apply rd_len;exact rfl;exact rfl;assumption)|(apply rd_ix;exact rfl;exact rfl;exact rfl;exact rfl;omega)))<;>(conv=>whnf)))
       refine dr_auto tabOk (by kernel_rfl) (by decide+kernel) ?_
       replace hp:=hp.drew
       ((conv=>whnf);repeat' (((with_reducible refine br_id ?_);first|(with_reducible refine br_f ?_)|((with_reducible refine br_dec (fun hx=>?_) (fun hx=>?_))<;>(try (exfalso;first|omega|contradiction))))<;>(conv=>whnf)))
       all_goals
        clear hless2 hxx
        have hx1:=sat_ d1 (i:=V) (by omega)
        refine dr_auto tabOk (by kernel_rfl) (by decide+kernel) ?_
        replace hp:=hp.drew
        ((conv=>whnf);repeat' ((first|((with_reducible refine cn_id ?_);(refine cn rfl ?_))|((with_reducible refine ld_id ?_);((refine ld_own0 hp 0 rfl ‹_› _ rfl ‹_› (by rfl) ?_)))|((with_reducible refine st_id ?_);first|((refine st_ownx hp 0 rfl rfl (V) rfl d1[a]! rfl (by simp only [List.length_set,Array.length_toList];omega) (fun _=>rfl) rfl ?_);clear hp;intro w hp;dsimp only [List.set] at hp)|((refine st_ownx hp 0 rfl rfl (a) rfl d1[V]! rfl (by simp only [List.length_set,Array.length_toList];omega) (fun _=>rfl) rfl ?_);clear hp;intro w hp;dsimp only [List.set] at hp))|((with_reducible refine gen_id ?_);((refine gen_ixs rfl rfl ‹_› rfl rfl (by omega) ?_)))|((with_reducible refine rd_id ?_);((refine rd_ixs rfl rfl ‹_› rfl rfl (by omega) ?_))))<;>(conv=>whnf)))
        all_goals rw [swp_l] at hp
        all_goals
         rw [part_eqU hU hV,if_pos hUV]
         exact ps_val (v':= .tuple #[i64 V, .bool true]) rfl ⟨rfl,hp.shut1 (j:=0) rfl⟩
      ·((conv=>whnf);repeat' ((first|((with_reducible refine br_id ?_);first|(with_reducible refine br_t ?_)|(with_reducible refine br_f ?_)|(with_reducible refine br_not ?_)|((with_reducible refine br_dec (fun hx=>?_) (fun hx=>?_))<;>(try (exfalso;first|omega|contradiction)))|((with_reducible refine br_eq (fun hx=>?_) (fun hx=>?_))<;>(try (exfalso;first|omega|contradiction)))|((with_reducible refine br_ne (fun hx=>?_) (fun hx=>?_))<;>(try (exfalso;first|omega|contradiction)))|((with_reducible refine br_s (fun hx=>?_) (fun hx=>?_))<;>(try (exfalso;first|omega|contradiction))))|((with_reducible refine ar_id ?_);first|(refine ar_i64 (by omega) ?_)|(refine ar_u32 (by omega) ?_)|(refine ar_u64 (by omega) ?_)|(refine ar_u8 (by omega) ?_))|((with_reducible refine cn_id ?_);first|(refine cn rfl ?_)|(refine cn ‹_› ?_)|(refine cn (by omega) ?_)|(refine cn (Chg.refl _ _) ?_))|((with_reducible refine ld_id ?_);first|(apply ld_hs hp;(focus repeat' constructor);exact rfl)|(refine ld_of ‹_› ?_))|((with_reducible refine ldn_id ?_);first|(apply lda_hs hp;(focus repeat' constructor);exact rfl)|(apply ldn_hs hp;(focus repeat' constructor);exact rfl;exact rfl))|((with_reducible refine al_id ?_);(refine al_cel hp ?_;clear hp;intro bb w hp))|((with_reducible refine st_id ?_);first|(apply sta_hs hp;(focus repeat' constructor);exact rfl;exact rfl;clear hp;intro w hp;(try dsimp only [List.set] at hp))|(apply st_hs hp;(focus repeat' constructor);exact rfl;exact rfl;clear hp;intro w hp;(try dsimp only [List.set] at hp)))|((with_reducible refine gen_id ?_);first|(apply gen_build;exact rfl;exact rfl)|(apply gen_len;exact rfl;exact rfl;assumption)|(apply gen_min;exact rfl;exact rfl;exact rfl)|(apply gen_max;exact rfl;exact rfl;exact rfl)|(apply gen_ix;exact rfl;exact rfl;exact rfl;exact rfl;omega)|(apply gen_ixa;exact rfl;exact rfl;exact rfl;exact rfl;omega))|((with_reducible refine fk_id ?_);(refine fk_mk ?_ ?_))|((with_reducible refine rd_id ?_);first|(apply rd_len;exact rfl;exact rfl;assumption)|(apply rd_ix;exact rfl;exact rfl;exact rfl;exact rfl;omega)))<;>(conv=>whnf)))
       refine dr_auto tabOk (by kernel_rfl) (by decide+kernel) ?_
       replace hp:=hp.drew
       ((conv=>whnf);repeat' ((first|((with_reducible refine br_id ?_);first|(with_reducible refine br_t ?_)|(with_reducible refine br_not ?_)|((with_reducible refine br_dec (fun hx=>?_) (fun hx=>?_))<;>(try (exfalso;first|omega|contradiction))))|((with_reducible refine ld_id ?_);first|((refine ld_own0 hp 0 rfl rfl _ rfl (hxx (by omega)) rfl ?_))|((refine ld_own0 hp 0 rfl ‹_› _ rfl ‹_› (by rfl) ?_)))|((with_reducible refine cl_id ?_);((refine cl_eq ((hless2 (by omega) _)) rfl rfl ?_;rintro e w ⟨rfl,hcc⟩;replace hp:=hp.call0 hcc;refine ⟨_,rfl,?_⟩)))|((with_reducible refine rd_id ?_);((refine rd_ixs rfl rfl ‹_› rfl rfl (by omega) ?_))))<;>(conv=>whnf)))
       all_goals
        clear hless2 hxx
        have hne:U≠V:=fun h1=>by
         subst h1
         have h2:=hsU (by omega)
         have h3:=hsV (by omega)
         rw [h2] at h3
         cases h3
        have hx1:=sat_ d1 (i:=U) (by omega)
        have hx2:=sat_ d1 (i:=V) (by omega)
        obtain ⟨k,hk⟩:∃k,V=k+1:=⟨V - 1,by omega⟩
        subst hk
        refine dr_auto tabOk (by kernel_rfl) (by decide+kernel) ?_
        replace hp:=hp.drew
        ((conv=>whnf);repeat' ((first|((with_reducible refine ar_id ?_);first|((refine ar_n (U+1) (by omega) (by omega) ?_))|((refine ar_n (k) (by omega) (by omega) ?_)))|((with_reducible refine cn_id ?_);(refine cn rfl ?_))|((with_reducible refine ld_id ?_);((refine ld_own0 hp 0 rfl ‹_› _ rfl ‹_› (by rfl) ?_)))|((with_reducible refine st_id ?_);first|((refine st_ownx hp 0 rfl rfl (U) rfl d1[k+1]! rfl (by simp only [List.length_set,Array.length_toList];omega) (fun _=>rfl) rfl ?_);clear hp;intro w hp;dsimp only [List.set] at hp)|((refine st_ownx hp 0 rfl rfl (k+1) rfl d1[U]! rfl (by simp only [List.length_set,Array.length_toList];omega) (fun _=>rfl) rfl ?_);clear hp;intro w hp;dsimp only [List.set] at hp))|((with_reducible refine gen_id ?_);((refine gen_ixs rfl rfl ‹_› rfl rfl (by omega) ?_)))|((with_reducible refine rd_id ?_);((refine rd_ixs rfl rfl ‹_› rfl rfl (by omega) ?_))))<;>(conv=>whnf)))
        all_goals rw [swp_l] at hp
        all_goals
         exact tail _ _ ⟨U+1,k,Sort.swp d1 U (k+1),by (repeat' (first|exact trivial|(refine ⟨rfl,?_⟩))),rfl,by omega,by omega,by omega,by rw [Sort.size_swp];exact hs1,by rw [part_eqU hU hV,if_neg hUV];exact ⟨rfl,rfl,rfl⟩,hp⟩
 ·rintro e w ⟨i,j,d2,hh,hds,hai,hij,hjm,hs2,⟨hr1,hr2,hr3⟩,hp⟩
  obtain ⟨r,hF⟩:∃r,Sort.partLoop ltU a i j d2=r:=⟨_,rfl⟩
  rw [hF] at hr1 hr3
  refine lp_inv (α:=Nat×Nat×Array UInt32) (fun x=> [(0, .slice (some ⟨g,0,none⟩) N c),(1,i64 a),(10,i64 x.1),(11,i64 x.2.1)]) (fun x w=>a < x.1∧x.1≤x.2.1+1∧x.2.1≤m∧x.2.2.size=N∧Sort.partLoop ltU a x.1 x.2.1 x.2.2=r∧Hp (datR (some ⟨g,0,none⟩) c d).dom w0 w [datR (some ⟨g,0,none⟩) c x.2.2]) (fun x=>x.2.1+1 - x.1) (i,j,d2) hh ⟨hai,hij,hjm,hs2,hF,hp⟩ ?_ hds
  clear hp hh hds hai hij hjm hs2 hF i j d2
  rintro ⟨i,j,d2⟩ e0 w ⟨hai,hij,hjm,hs2,hF,hp⟩
  dsimp only at hai hij hjm hs2 hF hp ⊢
  ((conv=>whnf);repeat' ((first|((with_reducible refine br_id ?_);first|(with_reducible refine br_t ?_)|(with_reducible refine br_f ?_)|(with_reducible refine br_not ?_)|((with_reducible refine br_dec (fun hx=>?_) (fun hx=>?_))<;>(try (exfalso;first|omega|contradiction)))|((with_reducible refine br_eq (fun hx=>?_) (fun hx=>?_))<;>(try (exfalso;first|omega|contradiction)))|((with_reducible refine br_ne (fun hx=>?_) (fun hx=>?_))<;>(try (exfalso;first|omega|contradiction)))|((with_reducible refine br_s (fun hx=>?_) (fun hx=>?_))<;>(try (exfalso;first|omega|contradiction))))|((with_reducible refine ar_id ?_);first|(refine ar_i64 (by omega) ?_)|(refine ar_u32 (by omega) ?_)|(refine ar_u64 (by omega) ?_)|(refine ar_u8 (by omega) ?_))|((with_reducible refine cn_id ?_);first|(refine cn rfl ?_)|(refine cn ‹_› ?_)|(refine cn (by omega) ?_)|(refine cn (Chg.refl _ _) ?_))|((with_reducible refine ld_id ?_);first|(apply ld_hs hp;(focus repeat' constructor);exact rfl)|(refine ld_of ‹_› ?_))|((with_reducible refine ldn_id ?_);first|(apply lda_hs hp;(focus repeat' constructor);exact rfl)|(apply ldn_hs hp;(focus repeat' constructor);exact rfl;exact rfl))|((with_reducible refine al_id ?_);(refine al_cel hp ?_;clear hp;intro bb w hp))|((with_reducible refine st_id ?_);first|(apply sta_hs hp;(focus repeat' constructor);exact rfl;exact rfl;clear hp;intro w hp;(try dsimp only [List.set] at hp))|(apply st_hs hp;(focus repeat' constructor);exact rfl;exact rfl;clear hp;intro w hp;(try dsimp only [List.set] at hp)))|((with_reducible refine gen_id ?_);first|(apply gen_build;exact rfl;exact rfl)|(apply gen_len;exact rfl;exact rfl;assumption)|(apply gen_min;exact rfl;exact rfl;exact rfl)|(apply gen_max;exact rfl;exact rfl;exact rfl)|(apply gen_ix;exact rfl;exact rfl;exact rfl;exact rfl;omega)|(apply gen_ixa;exact rfl;exact rfl;exact rfl;exact rfl;omega))|((with_reducible refine fk_id ?_);(refine fk_mk ?_ ?_))|((with_reducible refine rd_id ?_);first|(apply rd_len;exact rfl;exact rfl;assumption)|(apply rd_ix;exact rfl;exact rfl;exact rfl;exact rfl;omega)))<;>(conv=>whnf)))
  obtain ⟨U,hU⟩:∃zz,Sort.scanUp (fun y=>ltU y d2[a]!) d2 (j) (i)=zz:=⟨_,rfl⟩
  refine lp_inv (α:=Nat) (fun x=> [(0, .slice (some ⟨g,0,none⟩) N c),(1,i64 a),(10,i64 x),(11,i64 (j:Nat))]) (fun x w=>i≤x∧x≤j+1∧Sort.scanUp (fun y=>ltU y d2[a]!) d2 (j) x=U∧Hp (datR (some ⟨g,0,none⟩) c d).dom w0 w [datR (some ⟨g,0,none⟩) c d2]) (fun x=>j+1 - x) (i) (by (repeat' (first|exact trivial|(refine ⟨rfl,?_⟩)))) ⟨Nat.le_refl _,by show _≤_;omega,hU,hp⟩ ?_
  clear hp
  rintro x e0 w ⟨hx0,hx1,hsc,hp⟩
  dsimp only at hx0 hx1 hsc hp ⊢
  have hxa:=sat_ d2 (i:=a) (by omega)
  by_cases hgo:x≤j∧ltU d2[x]! d2[a]! =true
  ·have hxx:=sat_ d2 (i:=x) (by omega)
   have hless:=fun w=>less_any w d2[x]! d2[a]!
   rw [hgo.2] at hless
   rw [up_go hgo.1 (by simp [hgo.2])] at hsc
   ((conv=>whnf);repeat' ((first|((with_reducible refine br_id ?_);first|(with_reducible refine br_t ?_)|((with_reducible refine br_dec (fun hx=>?_) (fun hx=>?_))<;>(try (exfalso;first|omega|contradiction))))|((with_reducible refine ar_id ?_);((refine ar_n (x+1) (by omega) (by omega) ?_)))|((with_reducible refine ld_id ?_);((refine ld_own0 hp 0 rfl ‹_› _ rfl ‹_› (by rfl) ?_)))|((with_reducible refine dr_id ?_);(refine dr_auto tabOk (by kernel_rfl) (by decide+kernel) ?_;(try replace hp:=hp.drew)))|((with_reducible refine cl_id ?_);((refine cl_eq ((hless _)) rfl rfl ?_;rintro e w ⟨rfl,hcc⟩;replace hp:=hp.call0 hcc;refine ⟨_,rfl,?_⟩)))|((with_reducible refine rd_id ?_);((refine rd_ixs rfl rfl ‹_› rfl rfl (by omega) ?_))))<;>(conv=>whnf)))
   all_goals exact lp_next (x+1) (by show j+1 - (x+1) < j+1 - x;omega) (by (repeat' (first|exact trivial|(refine ⟨rfl,?_⟩)))) ⟨by show i≤x+1;omega,by show x+1≤j+1;omega,hsc,hp⟩
  ·have hsU:x≤j→ltU d2[x]! d2[a]! =false:=fun h1=>by
    cases hl:ltU d2[x]! d2[a]! with
    |true=>exact absurd ⟨h1,hl⟩ hgo
    |false=>rfl
   have hxx:x≤j→d2.toList[x]? =some d2[x]! :=fun h1=>sat_ d2 (i:=x) (by omega)
   have hless:=fun (h1:x≤j) w=>less_any w d2[x]! d2[a]!
   have hless2:x≤j→∀w,Calls Tryz.prog 255 #[u32 d2[x]!,u32 d2[a]!] w fun e w'=>e= .returned (.bool false)∧Chg N0 w w':=fun h1 w=>by
    have:=hless h1 w
    rwa [hsU h1] at this
   rw [up_stop (by
    rcases Nat.lt_or_ge j x with h1|h1
    ·exact .inl h1
    ·exact .inr (by simp [hsU h1]))] at hsc
   obtain rfl:U=x:=hsc.symm
   clear hgo hless
   ((conv=>whnf);repeat' ((first|((with_reducible refine br_id ?_);first|(with_reducible refine br_t ?_)|(with_reducible refine br_f ?_)|(with_reducible refine br_not ?_)|((with_reducible refine br_dec (fun hx=>?_) (fun hx=>?_))<;>(try (exfalso;first|omega|contradiction)))|((with_reducible refine br_eq (fun hx=>?_) (fun hx=>?_))<;>(try (exfalso;first|omega|contradiction)))|((with_reducible refine br_ne (fun hx=>?_) (fun hx=>?_))<;>(try (exfalso;first|omega|contradiction)))|((with_reducible refine br_s (fun hx=>?_) (fun hx=>?_))<;>(try (exfalso;first|omega|contradiction))))|((with_reducible refine ar_id ?_);first|(refine ar_i64 (by omega) ?_)|(refine ar_u32 (by omega) ?_)|(refine ar_u64 (by omega) ?_)|(refine ar_u8 (by omega) ?_))|((with_reducible refine cn_id ?_);first|(refine cn rfl ?_)|(refine cn ‹_› ?_)|(refine cn (by omega) ?_)|(refine cn (Chg.refl _ _) ?_))|((with_reducible refine ld_id ?_);first|(apply ld_hs hp;(focus repeat' constructor);exact rfl)|(refine ld_of ‹_› ?_))|((with_reducible refine ldn_id ?_);first|(apply lda_hs hp;(focus repeat' constructor);exact rfl)|(apply ldn_hs hp;(focus repeat' constructor);exact rfl;exact rfl))|((with_reducible refine al_id ?_);(refine al_cel hp ?_;clear hp;intro bb w hp))|((with_reducible refine st_id ?_);first|(apply sta_hs hp;(focus repeat' constructor);exact rfl;exact rfl;clear hp;intro w hp;(try dsimp only [List.set] at hp))|(apply st_hs hp;(focus repeat' constructor);exact rfl;exact rfl;clear hp;intro w hp;(try dsimp only [List.set] at hp)))|((with_reducible refine gen_id ?_);first|(apply gen_build;exact rfl;exact rfl)|(apply gen_len;exact rfl;exact rfl;assumption)|(apply gen_min;exact rfl;exact rfl;exact rfl)|(apply gen_max;exact rfl;exact rfl;exact rfl)|(apply gen_ix;exact rfl;exact rfl;exact rfl;exact rfl;omega)|(apply gen_ixa;exact rfl;exact rfl;exact rfl;exact rfl;omega))|((with_reducible refine fk_id ?_);(refine fk_mk ?_ ?_))|((with_reducible refine rd_id ?_);first|(apply rd_len;exact rfl;exact rfl;assumption)|(apply rd_ix;exact rfl;exact rfl;exact rfl;exact rfl;omega)))<;>(conv=>whnf)))
   refine dr_auto tabOk (by kernel_rfl) (by decide+kernel) ?_
   replace hp:=hp.drew
   ((conv=>whnf);repeat' ((first|((with_reducible refine br_id ?_);first|(with_reducible refine br_t ?_)|(with_reducible refine br_f ?_)|((with_reducible refine br_dec (fun hx=>?_) (fun hx=>?_))<;>(try (exfalso;first|omega|contradiction))))|((with_reducible refine ld_id ?_);first|((refine ld_own0 hp 0 rfl rfl _ rfl (hxx (by omega)) rfl ?_))|((refine ld_own0 hp 0 rfl ‹_› _ rfl ‹_› (by rfl) ?_)))|((with_reducible refine cl_id ?_);((refine cl_eq ((hless2 (by omega) _)) rfl rfl ?_;rintro e w ⟨rfl,hcc⟩;replace hp:=hp.call0 hcc;refine ⟨_,rfl,?_⟩)))|((with_reducible refine rd_id ?_);((refine rd_ixs rfl rfl ‹_› rfl rfl (by omega) ?_))))<;>(conv=>whnf)))
   all_goals
    clear hless2 hxx
    obtain ⟨V,hV⟩:∃zz,Sort.scanDown (fun y=> !ltU y d2[a]!) d2 (U) (j)=zz:=⟨_,rfl⟩
    refine lp_inv (α:=Nat) (fun x=> [(0, .slice (some ⟨g,0,none⟩) N c),(1,i64 a),(10,i64 (U:Nat)),(11,i64 x)]) (fun x w=>U≤x+1∧x≤j∧Sort.scanDown (fun y=> !ltU y d2[a]!) d2 (U) x=V∧Hp (datR (some ⟨g,0,none⟩) c d).dom w0 w [datR (some ⟨g,0,none⟩) c d2]) (fun x=>x) (j) (by (repeat' (first|exact trivial|(refine ⟨rfl,?_⟩)))) ⟨by show _≤_;omega,Nat.le_refl _,hV,hp⟩ ?_
    clear hp
    rintro x e0 w ⟨hx0,hx1,hsc,hp⟩
    dsimp only at hx0 hx1 hsc hp ⊢
    have hxa:=sat_ d2 (i:=a) (by omega)
    by_cases hgo:U≤x∧ltU d2[x]! d2[a]! =false
    ·have hxx:=sat_ d2 (i:=x) (by omega)
     have hless:=fun w=>less_any w d2[x]! d2[a]!
     rw [hgo.2] at hless
     obtain ⟨k,hk⟩:∃k,x=k+1:=⟨x - 1,by omega⟩
     subst hk
     rw [down_go hgo.1 (by simp [hgo.2])] at hsc
     ((conv=>whnf);repeat' ((first|((with_reducible refine br_id ?_);first|(with_reducible refine br_t ?_)|(with_reducible refine br_f ?_)|(with_reducible refine br_not ?_)|((with_reducible refine br_dec (fun hx=>?_) (fun hx=>?_))<;>(try (exfalso;first|omega|contradiction))))|((with_reducible refine ar_id ?_);((refine ar_n (k) (by omega) (by omega) ?_)))|((with_reducible refine ld_id ?_);((refine ld_own0 hp 0 rfl ‹_› _ rfl ‹_› (by rfl) ?_)))|((with_reducible refine dr_id ?_);(refine dr_auto tabOk (by kernel_rfl) (by decide+kernel) ?_;(try replace hp:=hp.drew)))|((with_reducible refine cl_id ?_);((refine cl_eq ((hless _)) rfl rfl ?_;rintro e w ⟨rfl,hcc⟩;replace hp:=hp.call0 hcc;refine ⟨_,rfl,?_⟩)))|((with_reducible refine rd_id ?_);((refine rd_ixs rfl rfl ‹_› rfl rfl (by omega) ?_))))<;>(conv=>whnf)))
     all_goals exact lp_next k (by show k < k+1;omega) (by (repeat' (first|exact trivial|(refine ⟨rfl,?_⟩)))) ⟨by show U≤k+1;omega,by show k≤j;omega,hsc,hp⟩
    ·have hsV:U≤x→ltU d2[x]! d2[a]! =true:=fun h1=>by
      cases hl:ltU d2[x]! d2[a]! with
      |false=>exact absurd ⟨h1,hl⟩ hgo
      |true=>rfl
     have hxx:U≤x→d2.toList[x]? =some d2[x]! :=fun h1=>sat_ d2 (i:=x) (by omega)
     have hless:=fun (h1:U≤x) w=>less_any w d2[x]! d2[a]!
     have hless2:U≤x→∀w,Calls Tryz.prog 255 #[u32 d2[x]!,u32 d2[a]!] w fun e w'=>e= .returned (.bool true)∧Chg N0 w w':=fun h1 w=>by
      have:=hless h1 w
      rwa [hsV h1] at this
     rw [down_stop (by
      rcases Nat.lt_or_ge x (U) with h1|h1
      ·exact .inr (.inl h1)
      ·exact .inr (.inr (by simp [hsV h1])))] at hsc
     obtain rfl:V=x:=hsc.symm
     clear hgo hless
     by_cases hUV:V < U
     ·((conv=>whnf);repeat' ((first|((with_reducible refine br_id ?_);first|(with_reducible refine br_t ?_)|(with_reducible refine br_f ?_)|(with_reducible refine br_not ?_)|((with_reducible refine br_dec (fun hx=>?_) (fun hx=>?_))<;>(try (exfalso;first|omega|contradiction)))|((with_reducible refine br_eq (fun hx=>?_) (fun hx=>?_))<;>(try (exfalso;first|omega|contradiction)))|((with_reducible refine br_ne (fun hx=>?_) (fun hx=>?_))<;>(try (exfalso;first|omega|contradiction)))|((with_reducible refine br_s (fun hx=>?_) (fun hx=>?_))<;>(try (exfalso;first|omega|contradiction))))|((with_reducible refine ar_id ?_);first|(refine ar_i64 (by omega) ?_)|(refine ar_u32 (by omega) ?_)|(refine ar_u64 (by omega) ?_)|(refine ar_u8 (by omega) ?_))|((with_reducible refine cn_id ?_);first|(refine cn rfl ?_)|(refine cn ‹_› ?_)|(refine cn (by omega) ?_)|(refine cn (Chg.refl _ _) ?_))|((with_reducible refine ld_id ?_);first|(apply ld_hs hp;(focus repeat' constructor);exact rfl)|(refine ld_of ‹_› ?_))|((with_reducible refine ldn_id ?_);first|(apply lda_hs hp;(focus repeat' constructor);exact rfl)|(apply ldn_hs hp;(focus repeat' constructor);exact rfl;exact rfl))|((with_reducible refine al_id ?_);(refine al_cel hp ?_;clear hp;intro bb w hp))|((with_reducible refine st_id ?_);first|(apply sta_hs hp;(focus repeat' constructor);exact rfl;exact rfl;clear hp;intro w hp;(try dsimp only [List.set] at hp))|(apply st_hs hp;(focus repeat' constructor);exact rfl;exact rfl;clear hp;intro w hp;(try dsimp only [List.set] at hp)))|((with_reducible refine gen_id ?_);first|(apply gen_build;exact rfl;exact rfl)|(apply gen_len;exact rfl;exact rfl;assumption)|(apply gen_min;exact rfl;exact rfl;exact rfl)|(apply gen_max;exact rfl;exact rfl;exact rfl)|(apply gen_ix;exact rfl;exact rfl;exact rfl;exact rfl;omega)|(apply gen_ixa;exact rfl;exact rfl;exact rfl;exact rfl;omega))|((with_reducible refine fk_id ?_);(refine fk_mk ?_ ?_))|((with_reducible refine rd_id ?_);first|(apply rd_len;exact rfl;exact rfl;assumption)|(apply rd_ix;exact rfl;exact rfl;exact rfl;exact rfl;omega)))<;>(conv=>whnf)))
      refine dr_auto tabOk (by kernel_rfl) (by decide+kernel) ?_
      replace hp:=hp.drew
      ((conv=>whnf);repeat' (((with_reducible refine br_id ?_);first|(with_reducible refine br_f ?_)|((with_reducible refine br_dec (fun hx=>?_) (fun hx=>?_))<;>(try (exfalso;first|omega|contradiction))))<;>(conv=>whnf)))
      all_goals
       clear hless2 hxx
       rw [partLoop_eqU hU hV,if_pos hUV] at hF
       have hx1:=sat_ d2 (i:=V) (by omega)
       refine dr_auto tabOk (by kernel_rfl) (by decide+kernel) ?_
       replace hp:=hp.drew
       ((conv=>whnf);repeat' ((first|((with_reducible refine cn_id ?_);(refine cn rfl ?_))|((with_reducible refine ld_id ?_);((refine ld_own0 hp 0 rfl ‹_› _ rfl ‹_› (by rfl) ?_)))|((with_reducible refine st_id ?_);first|((refine st_ownx hp 0 rfl rfl (V) rfl d2[a]! rfl (by simp only [List.length_set,Array.length_toList];omega) (fun _=>rfl) rfl ?_);clear hp;intro w hp;dsimp only [List.set] at hp)|((refine st_ownx hp 0 rfl rfl (a) rfl d2[V]! rfl (by simp only [List.length_set,Array.length_toList];omega) (fun _=>rfl) rfl ?_);clear hp;intro w hp;dsimp only [List.set] at hp))|((with_reducible refine gen_id ?_);((refine gen_ixs rfl rfl ‹_› rfl rfl (by omega) ?_)))|((with_reducible refine rd_id ?_);((refine rd_ixs rfl rfl ‹_› rfl rfl (by omega) ?_))))<;>(conv=>whnf)))
       all_goals rw [swp_l] at hp
       all_goals
        rw [hr1,hr2,hr3,←hF]
        exact ps_val (v':= .tuple #[i64 V, .bool false]) rfl ⟨rfl,hp.shut1 (j:=0) rfl⟩
     ·((conv=>whnf);repeat' ((first|((with_reducible refine br_id ?_);first|(with_reducible refine br_t ?_)|(with_reducible refine br_f ?_)|(with_reducible refine br_not ?_)|((with_reducible refine br_dec (fun hx=>?_) (fun hx=>?_))<;>(try (exfalso;first|omega|contradiction)))|((with_reducible refine br_eq (fun hx=>?_) (fun hx=>?_))<;>(try (exfalso;first|omega|contradiction)))|((with_reducible refine br_ne (fun hx=>?_) (fun hx=>?_))<;>(try (exfalso;first|omega|contradiction)))|((with_reducible refine br_s (fun hx=>?_) (fun hx=>?_))<;>(try (exfalso;first|omega|contradiction))))|((with_reducible refine ar_id ?_);first|(refine ar_i64 (by omega) ?_)|(refine ar_u32 (by omega) ?_)|(refine ar_u64 (by omega) ?_)|(refine ar_u8 (by omega) ?_))|((with_reducible refine cn_id ?_);first|(refine cn rfl ?_)|(refine cn ‹_› ?_)|(refine cn (by omega) ?_)|(refine cn (Chg.refl _ _) ?_))|((with_reducible refine ld_id ?_);first|(apply ld_hs hp;(focus repeat' constructor);exact rfl)|(refine ld_of ‹_› ?_))|((with_reducible refine ldn_id ?_);first|(apply lda_hs hp;(focus repeat' constructor);exact rfl)|(apply ldn_hs hp;(focus repeat' constructor);exact rfl;exact rfl))|((with_reducible refine al_id ?_);(refine al_cel hp ?_;clear hp;intro bb w hp))|((with_reducible refine st_id ?_);first|(apply sta_hs hp;(focus repeat' constructor);exact rfl;exact rfl;clear hp;intro w hp;(try dsimp only [List.set] at hp))|(apply st_hs hp;(focus repeat' constructor);exact rfl;exact rfl;clear hp;intro w hp;(try dsimp only [List.set] at hp)))|((with_reducible refine gen_id ?_);first|(apply gen_build;exact rfl;exact rfl)|(apply gen_len;exact rfl;exact rfl;assumption)|(apply gen_min;exact rfl;exact rfl;exact rfl)|(apply gen_max;exact rfl;exact rfl;exact rfl)|(apply gen_ix;exact rfl;exact rfl;exact rfl;exact rfl;omega)|(apply gen_ixa;exact rfl;exact rfl;exact rfl;exact rfl;omega))|((with_reducible refine fk_id ?_);(refine fk_mk ?_ ?_))|((with_reducible refine rd_id ?_);first|(apply rd_len;exact rfl;exact rfl;assumption)|(apply rd_ix;exact rfl;exact rfl;exact rfl;exact rfl;omega)))<;>(conv=>whnf)))
      refine dr_auto tabOk (by kernel_rfl) (by decide+kernel) ?_
      replace hp:=hp.drew
      ((conv=>whnf);repeat' ((first|((with_reducible refine br_id ?_);first|(with_reducible refine br_t ?_)|(with_reducible refine br_not ?_)|((with_reducible refine br_dec (fun hx=>?_) (fun hx=>?_))<;>(try (exfalso;first|omega|contradiction))))|((with_reducible refine ld_id ?_);first|((refine ld_own0 hp 0 rfl rfl _ rfl (hxx (by omega)) rfl ?_))|((refine ld_own0 hp 0 rfl ‹_› _ rfl ‹_› (by rfl) ?_)))|((with_reducible refine cl_id ?_);((refine cl_eq ((hless2 (by omega) _)) rfl rfl ?_;rintro e w ⟨rfl,hcc⟩;replace hp:=hp.call0 hcc;refine ⟨_,rfl,?_⟩)))|((with_reducible refine rd_id ?_);((refine rd_ixs rfl rfl ‹_› rfl rfl (by omega) ?_))))<;>(conv=>whnf)))
      all_goals
       clear hless2 hxx
       rw [partLoop_eqU hU hV,if_neg hUV] at hF
       have hne:U≠V:=fun h1=>by
        subst h1
        have h2:=hsU (by omega)
        have h3:=hsV (by omega)
        rw [h2] at h3
        cases h3
       have hx1:=sat_ d2 (i:=U) (by omega)
       have hx2:=sat_ d2 (i:=V) (by omega)
       obtain ⟨k,hk⟩:∃k,V=k+1:=⟨V - 1,by omega⟩
       subst hk
       refine dr_auto tabOk (by kernel_rfl) (by decide+kernel) ?_
       replace hp:=hp.drew
       ((conv=>whnf);repeat' ((first|((with_reducible refine ar_id ?_);first|((refine ar_n (U+1) (by omega) (by omega) ?_))|((refine ar_n (k) (by omega) (by omega) ?_)))|((with_reducible refine cn_id ?_);(refine cn rfl ?_))|((with_reducible refine ld_id ?_);((refine ld_own0 hp 0 rfl ‹_› _ rfl ‹_› (by rfl) ?_)))|((with_reducible refine st_id ?_);first|((refine st_ownx hp 0 rfl rfl (U) rfl d2[k+1]! rfl (by simp only [List.length_set,Array.length_toList];omega) (fun _=>rfl) rfl ?_);clear hp;intro w hp;dsimp only [List.set] at hp)|((refine st_ownx hp 0 rfl rfl (k+1) rfl d2[U]! rfl (by simp only [List.length_set,Array.length_toList];omega) (fun _=>rfl) rfl ?_);clear hp;intro w hp;dsimp only [List.set] at hp))|((with_reducible refine gen_id ?_);((refine gen_ixs rfl rfl ‹_› rfl rfl (by omega) ?_)))|((with_reducible refine rd_id ?_);((refine rd_ixs rfl rfl ‹_› rfl rfl (by omega) ?_))))<;>(conv=>whnf)))
       all_goals rw [swp_l] at hp
       all_goals
        exact lp_next (U+1,k,Sort.swp d2 U (k+1)) (by show k+1 - (U+1) < j+1 - i;omega) (by (repeat' (first|exact trivial|(refine ⟨rfl,?_⟩)))) ⟨by show a < U+1;omega,by show U+1≤k+1;omega,by show k≤m;omega,by rw [Sort.size_swp];exact hs2,hF,hp⟩
theorem partEqLoop_eqU {a i j U V:Nat} {d:Array UInt32} (hU:Sort.scanUp (fun y=> !ltU d[a]! y) d j i=U) (hV:Sort.scanDown (fun y=>ltU d[a]! y) d U j=V):Sort.partEqLoop ltU a i j d=if V < U then (U,d) else Sort.partEqLoop ltU a (U+1) (V - 1) (Sort.swp d U V):=by
 rw [Sort.partEqLoop_eq,hU,hV]
theorem peq_any (h:(datR (some ⟨g,0,none⟩) c d).ok w0) {a b p:Nat} (hap:a≤p) (hpb:p < b) (hb:b≤d.size) (hN:d.size=N) (hn:N≤1000000):Calls Tryz.prog 256 #[.slice (some ⟨g,0,none⟩) N c,i64 a,i64 b,i64 p] w0 fun e w'=>e= .returned (i64 (Sort.partitionEqual ltU d a b p).1)∧Mut (datR (some ⟨g,0,none⟩) c d) (datR (some ⟨g,0,none⟩) c (Sort.partitionEqual ltU d a b p).2) w0 w':=by
 have hp:=Hp.one h
 have us:=Tryz.underlying199
 have hA:(dat (some ⟨g,0,none⟩) c d).A=some ⟨g,0,none⟩:=rfl
 obtain ⟨m,rfl⟩:∃m,b=m+1:=⟨b - 1,by omega⟩
 have hx1:=sat_ d (i:=a) (by omega)
 have hx2:=sat_ d (i:=p) (by omega)
 refine calls_x (args:= [_,_,_,_]) tabOk Tryz.func256 Tryz.ntmps256 Tryz.results256 rfl (Nat.le_of_ble_eq_true rfl) ?_
 ((conv=>whnf);repeat' ((first|((with_reducible refine br_id ?_);first|(with_reducible refine br_t ?_)|(with_reducible refine br_f ?_)|(with_reducible refine br_not ?_)|((with_reducible refine br_dec (fun hx=>?_) (fun hx=>?_))<;>(try (exfalso;first|omega|contradiction)))|((with_reducible refine br_eq (fun hx=>?_) (fun hx=>?_))<;>(try (exfalso;first|omega|contradiction)))|((with_reducible refine br_ne (fun hx=>?_) (fun hx=>?_))<;>(try (exfalso;first|omega|contradiction)))|((with_reducible refine br_s (fun hx=>?_) (fun hx=>?_))<;>(try (exfalso;first|omega|contradiction))))|((with_reducible refine ar_id ?_);first|(refine ar_i64 (by omega) ?_)|(refine ar_u32 (by omega) ?_)|(refine ar_u64 (by omega) ?_)|(refine ar_u8 (by omega) ?_))|((with_reducible refine cn_id ?_);first|(refine cn rfl ?_)|(refine cn ‹_› ?_)|(refine cn (by omega) ?_)|(refine cn (Chg.refl _ _) ?_))|((with_reducible refine ld_id ?_);first|(apply ld_hs hp;(focus repeat' constructor);exact rfl)|(refine ld_of ‹_› ?_))|((with_reducible refine ldn_id ?_);first|(apply lda_hs hp;(focus repeat' constructor);exact rfl)|(apply ldn_hs hp;(focus repeat' constructor);exact rfl;exact rfl))|((with_reducible refine al_id ?_);(refine al_cel hp ?_;clear hp;intro bb w hp))|((with_reducible refine st_id ?_);first|(apply sta_hs hp;(focus repeat' constructor);exact rfl;exact rfl;clear hp;intro w hp;(try dsimp only [List.set] at hp))|(apply st_hs hp;(focus repeat' constructor);exact rfl;exact rfl;clear hp;intro w hp;(try dsimp only [List.set] at hp)))|((with_reducible refine gen_id ?_);first|(apply gen_build;exact rfl;exact rfl)|(apply gen_len;exact rfl;exact rfl;assumption)|(apply gen_min;exact rfl;exact rfl;exact rfl)|(apply gen_max;exact rfl;exact rfl;exact rfl)|(apply gen_ix;exact rfl;exact rfl;exact rfl;exact rfl;omega)|(apply gen_ixa;exact rfl;exact rfl;exact rfl;exact rfl;omega))|((with_reducible refine fk_id ?_);(refine fk_mk ?_ ?_))|((with_reducible refine rd_id ?_);first|(apply rd_len;exact rfl;exact rfl;assumption)|(apply rd_ix;exact rfl;exact rfl;exact rfl;exact rfl;omega)))<;>(conv=>whnf)))
 refine dr_auto tabOk (by kernel_rfl) (by decide+kernel) ?_
 replace hp:=hp.drew
 ((conv=>whnf);repeat' ((first|((with_reducible refine ar_id ?_);first|((refine ar_n (a+1) (by omega) (by omega) ?_))|((refine ar_n (m) (by omega) (by omega) ?_)))|((with_reducible refine cn_id ?_);(refine cn rfl ?_))|((with_reducible refine ld_id ?_);((refine ld_own0 hp 0 rfl ‹_› _ rfl ‹_› (by rfl) ?_)))|((with_reducible refine st_id ?_);first|((refine st_ownx hp 0 rfl rfl (a) rfl d[p]! rfl (by simp only [List.length_set,Array.length_toList];omega) (fun _=>rfl) rfl ?_);clear hp;intro w hp;dsimp only [List.set] at hp)|((refine st_ownx hp 0 rfl rfl (p) rfl d[a]! rfl (by simp only [List.length_set,Array.length_toList];omega) (fun _=>rfl) rfl ?_);clear hp;intro w hp;dsimp only [List.set] at hp))|((with_reducible refine gen_id ?_);((refine gen_ixs rfl rfl ‹_› rfl rfl (by omega) ?_)))|((with_reducible refine rd_id ?_);((refine rd_ixs rfl rfl ‹_› rfl rfl (by omega) ?_))))<;>(conv=>whnf)))
 all_goals rw [swp_l] at hp
 obtain ⟨r,hr⟩:∃r,Sort.partitionEqual ltU d a (m+1) p=r:=⟨_,rfl⟩
 have hF:Sort.partEqLoop ltU a (a+1) m (Sort.swp d a p)=r:=by rw [←hr];rfl
 have hs1:(Sort.swp d a p).size=N:=by rw [Sort.size_swp];exact hN
 refine lp_inv (α:=Nat×Nat×Array UInt32) (fun x=> [(0, .slice (some ⟨g,0,none⟩) N c),(1,i64 a),(9,i64 x.1),(10,i64 x.2.1)]) (fun x w=>a < x.1∧x.1≤x.2.1+1∧x.2.1≤m∧x.2.2.size=N∧Sort.partEqLoop ltU a x.1 x.2.1 x.2.2=r∧Hp (datR (some ⟨g,0,none⟩) c d).dom w0 w [datR (some ⟨g,0,none⟩) c x.2.2]) (fun x=>x.2.1+1 - x.1) (a+1,m,Sort.swp d a p) (by (repeat' (first|exact trivial|(refine ⟨rfl,?_⟩)))) ⟨by show a < a+1;omega,by show a+1≤m+1;omega,Nat.le_refl _,hs1,hF,hp⟩ ?_
 clear hp hF hs1
 rintro ⟨i,j,d2⟩ e0 w ⟨hai,hij,hjm,hs2,hF,hp⟩
 dsimp only at hai hij hjm hs2 hF hp ⊢
 ((conv=>whnf);repeat' ((first|((with_reducible refine br_id ?_);first|(with_reducible refine br_t ?_)|(with_reducible refine br_f ?_)|(with_reducible refine br_not ?_)|((with_reducible refine br_dec (fun hx=>?_) (fun hx=>?_))<;>(try (exfalso;first|omega|contradiction)))|((with_reducible refine br_eq (fun hx=>?_) (fun hx=>?_))<;>(try (exfalso;first|omega|contradiction)))|((with_reducible refine br_ne (fun hx=>?_) (fun hx=>?_))<;>(try (exfalso;first|omega|contradiction)))|((with_reducible refine br_s (fun hx=>?_) (fun hx=>?_))<;>(try (exfalso;first|omega|contradiction))))|((with_reducible refine ar_id ?_);first|(refine ar_i64 (by omega) ?_)|(refine ar_u32 (by omega) ?_)|(refine ar_u64 (by omega) ?_)|(refine ar_u8 (by omega) ?_))|((with_reducible refine cn_id ?_);first|(refine cn rfl ?_)|(refine cn ‹_› ?_)|(refine cn (by omega) ?_)|(refine cn (Chg.refl _ _) ?_))|((with_reducible refine ld_id ?_);first|(apply ld_hs hp;(focus repeat' constructor);exact rfl)|(refine ld_of ‹_› ?_))|((with_reducible refine ldn_id ?_);first|(apply lda_hs hp;(focus repeat' constructor);exact rfl)|(apply ldn_hs hp;(focus repeat' constructor);exact rfl;exact rfl))|((with_reducible refine al_id ?_);(refine al_cel hp ?_;clear hp;intro bb w hp))|((with_reducible refine st_id ?_);first|(apply sta_hs hp;(focus repeat' constructor);exact rfl;exact rfl;clear hp;intro w hp;(try dsimp only [List.set] at hp))|(apply st_hs hp;(focus repeat' constructor);exact rfl;exact rfl;clear hp;intro w hp;(try dsimp only [List.set] at hp)))|((with_reducible refine gen_id ?_);first|(apply gen_build;exact rfl;exact rfl)|(apply gen_len;exact rfl;exact rfl;assumption)|(apply gen_min;exact rfl;exact rfl;exact rfl)|(apply gen_max;exact rfl;exact rfl;exact rfl)|(apply gen_ix;exact rfl;exact rfl;exact rfl;exact rfl;omega)|(apply gen_ixa;exact rfl;exact rfl;exact rfl;exact rfl;omega))|((with_reducible refine fk_id ?_);(refine fk_mk ?_ ?_))|((with_reducible refine rd_id ?_);first|(apply rd_len;exact rfl;exact rfl;assumption)|(apply rd_ix;exact rfl;exact rfl;exact rfl;exact rfl;omega)))<;>(conv=>whnf)))
 obtain ⟨U,hU⟩:∃zz,Sort.scanUp (fun y=> !ltU d2[a]! y) d2 (j) (i)=zz:=⟨_,rfl⟩
 refine lp_inv (α:=Nat) (fun x=> [(0, .slice (some ⟨g,0,none⟩) N c),(1,i64 a),(9,i64 x),(10,i64 (j:Nat))]) (fun x w=>i≤x∧x≤j+1∧Sort.scanUp (fun y=> !ltU d2[a]! y) d2 (j) x=U∧Hp (datR (some ⟨g,0,none⟩) c d).dom w0 w [datR (some ⟨g,0,none⟩) c d2]) (fun x=>j+1 - x) (i) (by (repeat' (first|exact trivial|(refine ⟨rfl,?_⟩)))) ⟨Nat.le_refl _,by show _≤_;omega,hU,hp⟩ ?_
 clear hp
 rintro x e0 w ⟨hx0,hx1,hsc,hp⟩
 dsimp only at hx0 hx1 hsc hp ⊢
 have hxa:=sat_ d2 (i:=a) (by omega)
 by_cases hgo:x≤j∧ltU d2[a]! d2[x]! =false
 ·have hxx:=sat_ d2 (i:=x) (by omega)
  have hless:=fun w=>less_any w d2[a]! d2[x]!
  rw [hgo.2] at hless
  rw [up_go hgo.1 (by simp [hgo.2])] at hsc
  ((conv=>whnf);repeat' ((first|((with_reducible refine br_id ?_);first|(with_reducible refine br_t ?_)|(with_reducible refine br_f ?_)|(with_reducible refine br_not ?_)|((with_reducible refine br_dec (fun hx=>?_) (fun hx=>?_))<;>(try (exfalso;first|omega|contradiction))))|((with_reducible refine ar_id ?_);((refine ar_n (x+1) (by omega) (by omega) ?_)))|((with_reducible refine ld_id ?_);((refine ld_own0 hp 0 rfl ‹_› _ rfl ‹_› (by rfl) ?_)))|((with_reducible refine dr_id ?_);(refine dr_auto tabOk (by kernel_rfl) (by decide+kernel) ?_;(try replace hp:=hp.drew)))|((with_reducible refine cl_id ?_);((refine cl_eq ((hless _)) rfl rfl ?_;rintro e w ⟨rfl,hcc⟩;replace hp:=hp.call0 hcc;refine ⟨_,rfl,?_⟩)))|((with_reducible refine rd_id ?_);((refine rd_ixs rfl rfl ‹_› rfl rfl (by omega) ?_))))<;>(conv=>whnf)))
  all_goals exact lp_next (x+1) (by show j+1 - (x+1) < j+1 - x;omega) (by (repeat' (first|exact trivial|(refine ⟨rfl,?_⟩)))) ⟨by show i≤x+1;omega,by show x+1≤j+1;omega,hsc,hp⟩
 ·have hsU:x≤j→ltU d2[a]! d2[x]! =true:=fun h1=>by
   cases hl:ltU d2[a]! d2[x]! with
   |false=>exact absurd ⟨h1,hl⟩ hgo
   |true=>rfl
  have hxx:x≤j→d2.toList[x]? =some d2[x]! :=fun h1=>sat_ d2 (i:=x) (by omega)
  have hless:=fun (h1:x≤j) w=>less_any w d2[a]! d2[x]!
  have hless2:x≤j→∀w,Calls Tryz.prog 255 #[u32 d2[a]!,u32 d2[x]!] w fun e w'=>e= .returned (.bool true)∧Chg N0 w w':=fun h1 w=>by
   have:=hless h1 w
   rwa [hsU h1] at this
  rw [up_stop (by
   rcases Nat.lt_or_ge j x with h1|h1
   ·exact .inl h1
   ·exact .inr (by simp [hsU h1]))] at hsc
  obtain rfl:U=x:=hsc.symm
  clear hgo hless
  ((conv=>whnf);repeat' ((first|((with_reducible refine br_id ?_);first|(with_reducible refine br_t ?_)|(with_reducible refine br_f ?_)|(with_reducible refine br_not ?_)|((with_reducible refine br_dec (fun hx=>?_) (fun hx=>?_))<;>(try (exfalso;first|omega|contradiction)))|((with_reducible refine br_eq (fun hx=>?_) (fun hx=>?_))<;>(try (exfalso;first|omega|contradiction)))|((with_reducible refine br_ne (fun hx=>?_) (fun hx=>?_))<;>(try (exfalso;first|omega|contradiction)))|((with_reducible refine br_s (fun hx=>?_) (fun hx=>?_))<;>(try (exfalso;first|omega|contradiction))))|((with_reducible refine ar_id ?_);first|(refine ar_i64 (by omega) ?_)|(refine ar_u32 (by omega) ?_)|(refine ar_u64 (by omega) ?_)|(refine ar_u8 (by omega) ?_))|((with_reducible refine cn_id ?_);first|(refine cn rfl ?_)|(refine cn ‹_› ?_)|(refine cn (by omega) ?_)|(refine cn (Chg.refl _ _) ?_))|((with_reducible refine ld_id ?_);first|(apply ld_hs hp;(focus repeat' constructor);exact rfl)|(refine ld_of ‹_› ?_))|((with_reducible refine ldn_id ?_);first|(apply lda_hs hp;(focus repeat' constructor);exact rfl)|(apply ldn_hs hp;(focus repeat' constructor);exact rfl;exact rfl))|((with_reducible refine al_id ?_);(refine al_cel hp ?_;clear hp;intro bb w hp))|((with_reducible refine st_id ?_);first|(apply sta_hs hp;(focus repeat' constructor);exact rfl;exact rfl;clear hp;intro w hp;(try dsimp only [List.set] at hp))|(apply st_hs hp;(focus repeat' constructor);exact rfl;exact rfl;clear hp;intro w hp;(try dsimp only [List.set] at hp)))|((with_reducible refine gen_id ?_);first|(apply gen_build;exact rfl;exact rfl)|(apply gen_len;exact rfl;exact rfl;assumption)|(apply gen_min;exact rfl;exact rfl;exact rfl)|(apply gen_max;exact rfl;exact rfl;exact rfl)|(apply gen_ix;exact rfl;exact rfl;exact rfl;exact rfl;omega)|(apply gen_ixa;exact rfl;exact rfl;exact rfl;exact rfl;omega))|((with_reducible refine fk_id ?_);(refine fk_mk ?_ ?_))|((with_reducible refine rd_id ?_);first|(apply rd_len;exact rfl;exact rfl;assumption)|(apply rd_ix;exact rfl;exact rfl;exact rfl;exact rfl;omega)))<;>(conv=>whnf)))
  refine dr_auto tabOk (by kernel_rfl) (by decide+kernel) ?_
  replace hp:=hp.drew
  ((conv=>whnf);repeat' ((first|((with_reducible refine br_id ?_);first|(with_reducible refine br_t ?_)|(with_reducible refine br_f ?_)|(with_reducible refine br_not ?_)|((with_reducible refine br_dec (fun hx=>?_) (fun hx=>?_))<;>(try (exfalso;first|omega|contradiction))))|((with_reducible refine ld_id ?_);first|((refine ld_own0 hp 0 rfl rfl _ rfl (hxx (by omega)) rfl ?_))|((refine ld_own0 hp 0 rfl ‹_› _ rfl ‹_› (by rfl) ?_)))|((with_reducible refine cl_id ?_);((refine cl_eq ((hless2 (by omega) _)) rfl rfl ?_;rintro e w ⟨rfl,hcc⟩;replace hp:=hp.call0 hcc;refine ⟨_,rfl,?_⟩)))|((with_reducible refine rd_id ?_);((refine rd_ixs rfl rfl ‹_› rfl rfl (by omega) ?_))))<;>(conv=>whnf)))
  all_goals
   clear hless2 hxx
   obtain ⟨V,hV⟩:∃zz,Sort.scanDown (fun y=>ltU d2[a]! y) d2 (U) (j)=zz:=⟨_,rfl⟩
   refine lp_inv (α:=Nat) (fun x=> [(0, .slice (some ⟨g,0,none⟩) N c),(1,i64 a),(9,i64 (U:Nat)),(10,i64 x)]) (fun x w=>U≤x+1∧x≤j∧Sort.scanDown (fun y=>ltU d2[a]! y) d2 (U) x=V∧Hp (datR (some ⟨g,0,none⟩) c d).dom w0 w [datR (some ⟨g,0,none⟩) c d2]) (fun x=>x) (j) (by (repeat' (first|exact trivial|(refine ⟨rfl,?_⟩)))) ⟨by show _≤_;omega,Nat.le_refl _,hV,hp⟩ ?_
   clear hp
   rintro x e0 w ⟨hx0,hx1,hsc,hp⟩
   dsimp only at hx0 hx1 hsc hp ⊢
   have hxa:=sat_ d2 (i:=a) (by omega)
   by_cases hgo:U≤x∧ltU d2[a]! d2[x]! =true
   ·have hxx:=sat_ d2 (i:=x) (by omega)
    have hless:=fun w=>less_any w d2[a]! d2[x]!
    rw [hgo.2] at hless
    obtain ⟨k,hk⟩:∃k,x=k+1:=⟨x - 1,by omega⟩
    subst hk
    rw [down_go hgo.1 (by simp [hgo.2])] at hsc
    ((conv=>whnf);repeat' ((first|((with_reducible refine br_id ?_);first|(with_reducible refine br_t ?_)|((with_reducible refine br_dec (fun hx=>?_) (fun hx=>?_))<;>(try (exfalso;first|omega|contradiction))))|((with_reducible refine ar_id ?_);((refine ar_n (k) (by omega) (by omega) ?_)))|((with_reducible refine ld_id ?_);((refine ld_own0 hp 0 rfl ‹_› _ rfl ‹_› (by rfl) ?_)))|((with_reducible refine dr_id ?_);(refine dr_auto tabOk (by kernel_rfl) (by decide+kernel) ?_;(try replace hp:=hp.drew)))|((with_reducible refine cl_id ?_);((refine cl_eq ((hless _)) rfl rfl ?_;rintro e w ⟨rfl,hcc⟩;replace hp:=hp.call0 hcc;refine ⟨_,rfl,?_⟩)))|((with_reducible refine rd_id ?_);((refine rd_ixs rfl rfl ‹_› rfl rfl (by omega) ?_))))<;>(conv=>whnf)))
    all_goals exact lp_next k (by show k < k+1;omega) (by (repeat' (first|exact trivial|(refine ⟨rfl,?_⟩)))) ⟨by show U≤k+1;omega,by show k≤j;omega,hsc,hp⟩
   ·have hsV:U≤x→ltU d2[a]! d2[x]! =false:=fun h1=>by
     cases hl:ltU d2[a]! d2[x]! with
     |true=>exact absurd ⟨h1,hl⟩ hgo
     |false=>rfl
    have hxx:U≤x→d2.toList[x]? =some d2[x]! :=fun h1=>sat_ d2 (i:=x) (by omega)
    have hless:=fun (h1:U≤x) w=>less_any w d2[a]! d2[x]!
    have hless2:U≤x→∀w,Calls Tryz.prog 255 #[u32 d2[a]!,u32 d2[x]!] w fun e w'=>e= .returned (.bool false)∧Chg N0 w w':=fun h1 w=>by
     have:=hless h1 w
     rwa [hsV h1] at this
    rw [down_stop (by
     rcases Nat.lt_or_ge x (U) with h1|h1
     ·exact .inr (.inl h1)
     ·exact .inr (.inr (by simp [hsV h1])))] at hsc
    obtain rfl:V=x:=hsc.symm
    clear hgo hless
    by_cases hUV:V < U
    ·((conv=>whnf);repeat' ((first|((with_reducible refine br_id ?_);first|(with_reducible refine br_t ?_)|(with_reducible refine br_f ?_)|(with_reducible refine br_not ?_)|((with_reducible refine br_dec (fun hx=>?_) (fun hx=>?_))<;>(try (exfalso;first|omega|contradiction)))|((with_reducible refine br_eq (fun hx=>?_) (fun hx=>?_))<;>(try (exfalso;first|omega|contradiction)))|((with_reducible refine br_ne (fun hx=>?_) (fun hx=>?_))<;>(try (exfalso;first|omega|contradiction)))|((with_reducible refine br_s (fun hx=>?_) (fun hx=>?_))<;>(try (exfalso;first|omega|contradiction))))|((with_reducible refine ar_id ?_);first|(refine ar_i64 (by omega) ?_)|(refine ar_u32 (by omega) ?_)|(refine ar_u64 (by omega) ?_)|(refine ar_u8 (by omega) ?_))|((with_reducible refine cn_id ?_);first|(refine cn rfl ?_)|(refine cn ‹_› ?_)|(refine cn (by omega) ?_)|(refine cn (Chg.refl _ _) ?_))|((with_reducible refine ld_id ?_);first|(apply ld_hs hp;(focus repeat' constructor);exact rfl)|(refine ld_of ‹_› ?_))|((with_reducible refine ldn_id ?_);first|(apply lda_hs hp;(focus repeat' constructor);exact rfl)|(apply ldn_hs hp;(focus repeat' constructor);exact rfl;exact rfl))|((with_reducible refine al_id ?_);(refine al_cel hp ?_;clear hp;intro bb w hp))|((with_reducible refine st_id ?_);first|(apply sta_hs hp;(focus repeat' constructor);exact rfl;exact rfl;clear hp;intro w hp;(try dsimp only [List.set] at hp))|(apply st_hs hp;(focus repeat' constructor);exact rfl;exact rfl;clear hp;intro w hp;(try dsimp only [List.set] at hp)))|((with_reducible refine gen_id ?_);first|(apply gen_build;exact rfl;exact rfl)|(apply gen_len;exact rfl;exact rfl;assumption)|(apply gen_min;exact rfl;exact rfl;exact rfl)|(apply gen_max;exact rfl;exact rfl;exact rfl)|(apply gen_ix;exact rfl;exact rfl;exact rfl;exact rfl;omega)|(apply gen_ixa;exact rfl;exact rfl;exact rfl;exact rfl;omega))|((with_reducible refine fk_id ?_);(refine fk_mk ?_ ?_))|((with_reducible refine rd_id ?_);first|(apply rd_len;exact rfl;exact rfl;assumption)|(apply rd_ix;exact rfl;exact rfl;exact rfl;exact rfl;omega)))<;>(conv=>whnf)))
     refine dr_auto tabOk (by kernel_rfl) (by decide+kernel) ?_
     replace hp:=hp.drew
     ((conv=>whnf);repeat' (((with_reducible refine br_id ?_);first|(with_reducible refine br_f ?_)|((with_reducible refine br_dec (fun hx=>?_) (fun hx=>?_))<;>(try (exfalso;first|omega|contradiction))))<;>(conv=>whnf)))
     all_goals
      clear hless2 hxx
      rw [partEqLoop_eqU hU hV,if_pos hUV] at hF
      rw [hr,←hF]
      exact ps_val (v':=i64 U) rfl ⟨rfl,hp.shut1 (j:=0) rfl⟩
    ·((conv=>whnf);repeat' ((first|((with_reducible refine br_id ?_);first|(with_reducible refine br_t ?_)|(with_reducible refine br_f ?_)|(with_reducible refine br_not ?_)|((with_reducible refine br_dec (fun hx=>?_) (fun hx=>?_))<;>(try (exfalso;first|omega|contradiction)))|((with_reducible refine br_eq (fun hx=>?_) (fun hx=>?_))<;>(try (exfalso;first|omega|contradiction)))|((with_reducible refine br_ne (fun hx=>?_) (fun hx=>?_))<;>(try (exfalso;first|omega|contradiction)))|((with_reducible refine br_s (fun hx=>?_) (fun hx=>?_))<;>(try (exfalso;first|omega|contradiction))))|((with_reducible refine ar_id ?_);first|(refine ar_i64 (by omega) ?_)|(refine ar_u32 (by omega) ?_)|(refine ar_u64 (by omega) ?_)|(refine ar_u8 (by omega) ?_))|((with_reducible refine cn_id ?_);first|(refine cn rfl ?_)|(refine cn ‹_› ?_)|(refine cn (by omega) ?_)|(refine cn (Chg.refl _ _) ?_))|((with_reducible refine ld_id ?_);first|(apply ld_hs hp;(focus repeat' constructor);exact rfl)|(refine ld_of ‹_› ?_))|((with_reducible refine ldn_id ?_);first|(apply lda_hs hp;(focus repeat' constructor);exact rfl)|(apply ldn_hs hp;(focus repeat' constructor);exact rfl;exact rfl))|((with_reducible refine al_id ?_);(refine al_cel hp ?_;clear hp;intro bb w hp))|((with_reducible refine st_id ?_);first|(apply sta_hs hp;(focus repeat' constructor);exact rfl;exact rfl;clear hp;intro w hp;(try dsimp only [List.set] at hp))|(apply st_hs hp;(focus repeat' constructor);exact rfl;exact rfl;clear hp;intro w hp;(try dsimp only [List.set] at hp)))|((with_reducible refine gen_id ?_);first|(apply gen_build;exact rfl;exact rfl)|(apply gen_len;exact rfl;exact rfl;assumption)|(apply gen_min;exact rfl;exact rfl;exact rfl)|(apply gen_max;exact rfl;exact rfl;exact rfl)|(apply gen_ix;exact rfl;exact rfl;exact rfl;exact rfl;omega)|(apply gen_ixa;exact rfl;exact rfl;exact rfl;exact rfl;omega))|((with_reducible refine fk_id ?_);(refine fk_mk ?_ ?_))|((with_reducible refine rd_id ?_);first|(apply rd_len;exact rfl;exact rfl;assumption)|(apply rd_ix;exact rfl;exact rfl;exact rfl;exact rfl;omega)))<;>(conv=>whnf)))
     refine dr_auto tabOk (by kernel_rfl) (by decide+kernel) ?_
     replace hp:=hp.drew
     ((conv=>whnf);repeat' ((first|((with_reducible refine br_id ?_);first|(with_reducible refine br_t ?_)|(with_reducible refine br_f ?_)|((with_reducible refine br_dec (fun hx=>?_) (fun hx=>?_))<;>(try (exfalso;first|omega|contradiction))))|((with_reducible refine ld_id ?_);first|((refine ld_own0 hp 0 rfl rfl _ rfl (hxx (by omega)) rfl ?_))|((refine ld_own0 hp 0 rfl ‹_› _ rfl ‹_› (by rfl) ?_)))|((with_reducible refine cl_id ?_);((refine cl_eq ((hless2 (by omega) _)) rfl rfl ?_;rintro e w ⟨rfl,hcc⟩;replace hp:=hp.call0 hcc;refine ⟨_,rfl,?_⟩)))|((with_reducible refine rd_id ?_);((refine rd_ixs rfl rfl ‹_› rfl rfl (by omega) ?_))))<;>(conv=>whnf)))
     all_goals
      clear hless2 hxx
      rw [partEqLoop_eqU hU hV,if_neg hUV] at hF
      have hne:U≠V:=fun h1=>by
       subst h1
       have h2:=hsU (by omega)
       have h3:=hsV (by omega)
       rw [h2] at h3
       cases h3
      have hx1:=sat_ d2 (i:=U) (by omega)
      have hx2:=sat_ d2 (i:=V) (by omega)
      obtain ⟨k,hk⟩:∃k,V=k+1:=⟨V - 1,by omega⟩
      subst hk
      refine dr_auto tabOk (by kernel_rfl) (by decide+kernel) ?_
      replace hp:=hp.drew
      ((conv=>whnf);repeat' ((first|((with_reducible refine ar_id ?_);first|((refine ar_n (U+1) (by omega) (by omega) ?_))|((refine ar_n (k) (by omega) (by omega) ?_)))|((with_reducible refine cn_id ?_);(refine cn rfl ?_))|((with_reducible refine ld_id ?_);((refine ld_own0 hp 0 rfl ‹_› _ rfl ‹_› (by rfl) ?_)))|((with_reducible refine st_id ?_);first|((refine st_ownx hp 0 rfl rfl (U) rfl d2[k+1]! rfl (by simp only [List.length_set,Array.length_toList];omega) (fun _=>rfl) rfl ?_);clear hp;intro w hp;dsimp only [List.set] at hp)|((refine st_ownx hp 0 rfl rfl (k+1) rfl d2[U]! rfl (by simp only [List.length_set,Array.length_toList];omega) (fun _=>rfl) rfl ?_);clear hp;intro w hp;dsimp only [List.set] at hp))|((with_reducible refine gen_id ?_);((refine gen_ixs rfl rfl ‹_› rfl rfl (by omega) ?_)))|((with_reducible refine rd_id ?_);((refine rd_ixs rfl rfl ‹_› rfl rfl (by omega) ?_))))<;>(conv=>whnf)))
      all_goals rw [swp_l] at hp
      all_goals
       exact lp_next (U+1,k,Sort.swp d2 U (k+1)) (by show k+1 - (U+1) < j+1 - i;omega) (by (repeat' (first|exact trivial|(refine ⟨rfl,?_⟩)))) ⟨by show a < U+1;omega,by show U+1≤k+1;omega,by show k≤m;omega,by rw [Sort.size_swp];exact hs2,hF,hp⟩
end
end Go.Proofs.YteabebmlclgakaaGreat
