/- Sort1: slices.Sort at uint32: comparing, sorting by insertion, by a heap, turning round. Of own rows of at most a million. -/
import Derived.Test.YteabebmlclgakaaGreatMRespondAllsSort0
import Derived.Test.YteabebmlclgakaaGreatMRespondAllsTailS
import Derived.Test.YteabebmlclgakaaGreatMRespondAll6
import Derived.Test.YteabebmlclgakaaGreatMRespondAll11
import Derived.Sort.LotC
set_option linter.unusedSimpArgs false
set_option linter.unusedVariables false
namespace Go.Proofs.YteabebmlclgakaaGreat
open Go.RowKit
set_option maxRecDepth 100000
set_option maxHeartbeats 4000000
abbrev u32L (x:UInt32):List Value:= [u32 x]
def ltU (x y:UInt32):Bool:=decide ((x.toNat:Int) < y.toNat)
theorem swoU:Sort.SWO ltU where
 irrefl x:=by simp [ltU]
 trans x y z h1 h2:=by simp only [ltU,decide_eq_true_eq] at*;omega
 ntrans x y z h1 h2:=by simp only [ltU,decide_eq_false_iff_not] at*;omega
abbrev dat (A:Option Addr) (c:Nat) (d:Array UInt32):Sl UInt32:=⟨A,c,d.toList⟩
abbrev datR (A:Option Addr) (c:Nat) (d:Array UInt32):Res:=rowR 24 1 u32L (dat A c d)
theorem Hp.one {w:World} {r:Res} (h:r.ok w):Hp r.dom w w [r]:=⟨Chg.refl _ _,fun x hx=>by rw [List.mem_singleton] at hx;subst hx;exact h,List.pairwise_singleton ..,fun x hx b hb=>by rw [List.mem_singleton] at hx;subst hx;exact .inl hb⟩
theorem less_any (w0:World) (x y:UInt32):Calls Tryz.prog 255 #[u32 x,u32 y] w0 fun e w'=>e= .returned (.bool (ltU x y))∧Chg N0 w0 w':=by
 have hp:=Hp.start (S:=N0) w0
 have hnan:∀w (x:UInt32),Calls Tryz.prog 275 #[u32 x] w fun e w'=>e= .returned (.bool false)∧Chg N0 w w':=fun w0 x=>by
  have hp:=Hp.start (S:=N0) w0
  have hb:((x.toNat:Int) !=x.toNat)=false:=bne_self_eq_false _
  refine calls_x (args:= [_]) tabOk Tryz.func275 Tryz.ntmps275 Tryz.results275 rfl (Nat.le_of_ble_eq_true rfl) ?_
  ((conv=>whnf);repeat' ((first|((with_reducible refine br_id ?_);first|(with_reducible refine br_t ?_)|(with_reducible refine br_f ?_)|(with_reducible refine br_not ?_)|((with_reducible refine br_dec (fun hx=>?_) (fun hx=>?_))<;>(try (exfalso;first|omega|contradiction)))|((with_reducible refine br_eq (fun hx=>?_) (fun hx=>?_))<;>(try (exfalso;first|omega|contradiction)))|((with_reducible refine br_ne (fun hx=>?_) (fun hx=>?_))<;>(try (exfalso;first|omega|contradiction)))|((with_reducible refine br_s (fun hx=>?_) (fun hx=>?_))<;>(try (exfalso;first|omega|contradiction))))|((with_reducible refine ar_id ?_);first|(refine ar_i64 (by omega) ?_)|(refine ar_u32 (by omega) ?_)|(refine ar_u64 (by omega) ?_)|(refine ar_u8 (by omega) ?_))|((with_reducible refine cn_id ?_);first|(refine cn rfl ?_)|(refine cn ‹_› ?_)|(refine cn (by omega) ?_)|(refine cn (Chg.refl _ _) ?_))|((with_reducible refine ld_id ?_);first|(apply ld_hs hp;(focus repeat' constructor);exact rfl)|(refine ld_of ‹_› ?_))|((with_reducible refine ldn_id ?_);first|(apply lda_hs hp;(focus repeat' constructor);exact rfl)|(apply ldn_hs hp;(focus repeat' constructor);exact rfl;exact rfl))|((with_reducible refine al_id ?_);(refine al_cel hp ?_;clear hp;intro bb w hp))|((with_reducible refine st_id ?_);first|(apply sta_hs hp;(focus repeat' constructor);exact rfl;exact rfl;clear hp;intro w hp;(try dsimp only [List.set] at hp))|(apply st_hs hp;(focus repeat' constructor);exact rfl;exact rfl;clear hp;intro w hp;(try dsimp only [List.set] at hp)))|((with_reducible refine gen_id ?_);first|(apply gen_build;exact rfl;exact rfl)|(apply gen_len;exact rfl;exact rfl;assumption)|(apply gen_min;exact rfl;exact rfl;exact rfl)|(apply gen_max;exact rfl;exact rfl;exact rfl)|(apply gen_ix;exact rfl;exact rfl;exact rfl;exact rfl;omega)|(apply gen_ixa;exact rfl;exact rfl;exact rfl;exact rfl;omega))|((with_reducible refine dr_id ?_);first|(refine dr_auto tabOk (by kernel_rfl) (by decide+kernel) ?_;(try replace hp:=hp.drew))|(refine dr_autog tabOk (by kernel_rfl) (by decide+kernel) ?_;(try replace hp:=hp.drew))|(refine dr_autot tabOk (by kernel_rfl) (by decide+kernel) ?_;(try replace hp:=hp.drew)))|((with_reducible refine fk_id ?_);(refine fk_mk ?_ ?_))|((with_reducible refine rd_id ?_);first|(apply rd_len;exact rfl;exact rfl;assumption)|(apply rd_ix;exact rfl;exact rfl;exact rfl;exact rfl;omega)))<;>(conv=>whnf)))
  all_goals exact ps_val (v':= .bool ((x.toNat:Int) !=x.toNat)) rfl ⟨by rw [hb],hp.chg⟩
 refine calls_x (args:= [_,_]) tabOk Tryz.func255 Tryz.ntmps255 Tryz.results255 rfl (Nat.le_of_ble_eq_true rfl) ?_
 ((conv=>whnf);repeat' ((first|((with_reducible refine br_id ?_);(with_reducible refine br_f ?_))|((with_reducible refine cl_id ?_);((refine cl_eq ((hnan _ x)) rfl rfl ?_;rintro e w ⟨rfl,hcc⟩;replace hp:=hp.call0 hcc;refine ⟨_,rfl,?_⟩))))<;>(conv=>whnf)))
 all_goals exact ps_val (v':= .bool (decide ((x.toNat:Int) < y.toNat))) rfl ⟨rfl,hp.chg⟩
section
variable {w0 : World} {g c N : Nat} {d : Array UInt32}
theorem ins_any (h:(datR (some ⟨g,0,none⟩) c d).ok w0) {a b:Nat} (hab:a≤b) (hb:b≤d.size) (hN:d.size=N) (hn:N≤1000000):Calls Tryz.prog 249 #[.slice (some ⟨g,0,none⟩) N c,i64 a,i64 b] w0 fun e w'=>e= .returned (.tuple #[])∧Mut (datR (some ⟨g,0,none⟩) c d) (datR (some ⟨g,0,none⟩) c (Sort.insertionSort ltU d a b)) w0 w':=by
 have hp:=Hp.one h
 have us:=Tryz.underlying199
 have hdl:d.toList.length=d.size:=by simp
 have hA:(dat (some ⟨g,0,none⟩) c d).A=some ⟨g,0,none⟩:=rfl
 refine calls_x (args:= [_,_,_]) tabOk Tryz.func249 Tryz.ntmps249 Tryz.results249 rfl (Nat.le_of_ble_eq_true rfl) ?_
 ((conv=>whnf);repeat' (((with_reducible refine ar_id ?_);(refine ar_i64 (by omega) ?_))<;>(conv=>whnf)))
 refine lp_inv (α:=Nat×Array UInt32) (fun x=> [(0, .slice (some ⟨g,0,none⟩) N c),(1,i64 a),(2,i64 b),(6,i64 x.1)]) (fun x w=>a+1≤x.1∧x.2.size=d.size∧Sort.insOuter ltU a b x.1 x.2=Sort.insertionSort ltU d a b∧Hp (datR (some ⟨g,0,none⟩) c d).dom w0 w [datR (some ⟨g,0,none⟩) c x.2]) (fun x=>b - x.1) (a+1,d) (by (repeat' (first|exact trivial|(refine ⟨rfl,?_⟩)))) ⟨Nat.le_refl _,rfl,rfl,hp⟩ ?_
 clear hp
 rintro ⟨i,d1⟩ e0 w ⟨hi,hs1,hF,hp⟩
 dsimp only at hi hs1 hF hp ⊢
 rcases Nat.lt_or_ge i b with hlt|hge
 ·rw [insOuter_step hlt] at hF
  ((conv=>whnf);repeat' (((with_reducible refine br_id ?_);((with_reducible refine br_dec (fun hx=>?_) (fun hx=>?_))<;>(try (exfalso;first|omega|contradiction))))<;>(conv=>whnf)))
  refine lp_inv (α:=Nat×Array UInt32) (fun x=> [(0, .slice (some ⟨g,0,none⟩) N c),(1,i64 a),(2,i64 b),(6,i64 i),(7,i64 x.1)]) (fun x w=>a≤x.1∧x.1 < b∧x.2.size=d.size∧Sort.insOuter ltU a b (i+1) (Sort.insInner ltU a x.1 x.2)=Sort.insertionSort ltU d a b∧Hp (datR (some ⟨g,0,none⟩) c d).dom w0 w [datR (some ⟨g,0,none⟩) c x.2]) (fun x=>x.1) (i,d1) (by (repeat' (first|exact trivial|(refine ⟨rfl,?_⟩)))) ⟨by show a≤i;omega,hlt,hs1,hF,hp⟩ ?_
  clear hp hF hs1 d1
  rintro ⟨j,d1⟩ e0 w ⟨hja,hjb,hs1,hF,hp⟩
  dsimp only at hja hjb hs1 hF hp ⊢
  rcases Nat.lt_or_ge a j with haj|hja2
  ·obtain ⟨k,rfl⟩:∃k,j=k+1:=⟨j - 1,by omega⟩
   have hx1:=sat_ d1 (i:=k+1) (by omega)
   have hx2:=sat_ d1 (i:=k) (by omega)
   have hless:=fun w=>less_any w d1[k+1]! d1[k]!
   cases hl:ltU d1[k+1]! d1[k]! with
   |false=>
    rw [hl] at hless
    ((conv=>whnf);repeat' ((first|((with_reducible refine br_id ?_);first|(with_reducible refine br_t ?_)|(with_reducible refine br_f ?_)|((with_reducible refine br_dec (fun hx=>?_) (fun hx=>?_))<;>(try (exfalso;first|omega|contradiction))))|((with_reducible refine ar_id ?_);first|((refine ar_n (k) (by omega) (by omega) ?_))|(refine ar_i64 (by omega) ?_))|((with_reducible refine ld_id ?_);((refine ld_own0 hp 0 rfl ‹_› _ rfl ‹_› (by rfl) ?_)))|((with_reducible refine dr_id ?_);(refine dr_auto tabOk (by kernel_rfl) (by decide+kernel) ?_;(try replace hp:=hp.drew)))|((with_reducible refine cl_id ?_);((refine cl_eq ((hless _)) rfl rfl ?_;rintro e w ⟨rfl,hcc⟩;replace hp:=hp.call0 hcc;refine ⟨_,rfl,?_⟩)))|((with_reducible refine rd_id ?_);((refine rd_ixs rfl rfl ‹_› rfl rfl (by omega) ?_))))<;>(conv=>whnf)))
    rw [insInner_stop hl] at hF
    exact lp_next (i+1,d1) (by show b - (i+1) < b - i;omega) (by (repeat' (first|exact trivial|(refine ⟨rfl,?_⟩)))) ⟨by show a+1≤i+1;omega,hs1,hF,hp⟩
   |true=>
    rw [hl] at hless
    rw [insInner_go (by omega) hl] at hF
    ((conv=>whnf);repeat' ((first|((with_reducible refine br_id ?_);first|(with_reducible refine br_t ?_)|(with_reducible refine br_f ?_)|(with_reducible refine br_not ?_)|((with_reducible refine br_dec (fun hx=>?_) (fun hx=>?_))<;>(try (exfalso;first|omega|contradiction)))|((with_reducible refine br_eq (fun hx=>?_) (fun hx=>?_))<;>(try (exfalso;first|omega|contradiction)))|((with_reducible refine br_ne (fun hx=>?_) (fun hx=>?_))<;>(try (exfalso;first|omega|contradiction)))|((with_reducible refine br_s (fun hx=>?_) (fun hx=>?_))<;>(try (exfalso;first|omega|contradiction))))|((with_reducible refine ar_id ?_);first|((refine ar_n (k) (by omega) (by omega) ?_))|(refine ar_i64 (by omega) ?_)|(refine ar_u32 (by omega) ?_)|(refine ar_u64 (by omega) ?_)|(refine ar_u8 (by omega) ?_))|((with_reducible refine cn_id ?_);first|(refine cn rfl ?_)|(refine cn ‹_› ?_)|(refine cn (by omega) ?_)|(refine cn (Chg.refl _ _) ?_))|((with_reducible refine ld_id ?_);first|((refine ld_own hp 0 rfl ‹_› _ _ rfl ‹_› (by rfl) ?_))|((refine ld_own0 hp 0 rfl ‹_› _ rfl ‹_› (by rfl) ?_))|(apply ld_hs hp;(focus repeat' constructor);exact rfl)|(refine ld_of ‹_› ?_))|((with_reducible refine ldn_id ?_);first|((refine ldn_own hp 0 rfl ‹_› _ _ rfl ‹_› (by rfl) (by rfl) ?_))|((refine ldn_ownx hp 0 rfl ‹_› _ rfl ‹_› rfl ?_))|(apply lda_hs hp;(focus repeat' constructor);exact rfl)|(apply ldn_hs hp;(focus repeat' constructor);exact rfl;exact rfl))|((with_reducible refine al_id ?_);(refine al_cel hp ?_;clear hp;intro bb w hp))|((with_reducible refine st_id ?_);first|(apply sta_hs hp;(focus repeat' constructor);exact rfl;exact rfl;clear hp;intro w hp;(try dsimp only [List.set] at hp))|(apply st_hs hp;(focus repeat' constructor);exact rfl;exact rfl;clear hp;intro w hp;(try dsimp only [List.set] at hp)))|((with_reducible refine gen_id ?_);first|((refine gen_ixs rfl rfl ‹_› rfl rfl (by omega) ?_))|(apply gen_build;exact rfl;exact rfl)|(apply gen_len;exact rfl;exact rfl;assumption)|(apply gen_min;exact rfl;exact rfl;exact rfl)|(apply gen_max;exact rfl;exact rfl;exact rfl)|(apply gen_ix;exact rfl;exact rfl;exact rfl;exact rfl;omega)|(apply gen_ixa;exact rfl;exact rfl;exact rfl;exact rfl;omega))|((with_reducible refine fk_id ?_);(refine fk_mk ?_ ?_))|((with_reducible refine cl_id ?_);((refine cl_eq ((hless _)) rfl rfl ?_;rintro e w ⟨rfl,hcc⟩;replace hp:=hp.call0 hcc;refine ⟨_,rfl,?_⟩)))|((with_reducible refine rd_id ?_);first|((refine rd_ixs rfl rfl ‹_› rfl rfl (by omega) ?_))|(apply rd_len;exact rfl;exact rfl;assumption)|(apply rd_ix;exact rfl;exact rfl;exact rfl;exact rfl;omega)))<;>(conv=>whnf)))
    refine dr_auto tabOk (by kernel_rfl) (by decide+kernel) ?_
    replace hp:=hp.drew
    ((conv=>whnf);repeat' ((first|((with_reducible refine br_id ?_);first|(with_reducible refine br_t ?_)|((with_reducible refine br_dec (fun hx=>?_) (fun hx=>?_))<;>(try (exfalso;first|omega|contradiction))))|((with_reducible refine ar_id ?_);((refine ar_n (k) (by omega) (by omega) ?_)))|((with_reducible refine ld_id ?_);((refine ld_own0 hp 0 rfl ‹_› _ rfl ‹_› (by rfl) ?_)))|((with_reducible refine cl_id ?_);((refine cl_eq ((hless _)) rfl rfl ?_;rintro e w ⟨rfl,hcc⟩;replace hp:=hp.call0 hcc;refine ⟨_,rfl,?_⟩)))|((with_reducible refine rd_id ?_);((refine rd_ixs rfl rfl ‹_› rfl rfl (by omega) ?_))))<;>(conv=>whnf)))
    refine dr_autos [4] 1000 tabOk (by kernel_rfl) (by decide+kernel) ?_
    replace hp:=hp.drew
    ((conv=>whnf);repeat' ((first|((with_reducible refine ar_id ?_);((refine ar_n (k) (by omega) (by omega) ?_)))|((with_reducible refine cn_id ?_);first|(refine cn rfl ?_)|(refine cn (Chg.refl _ _) ?_))|((with_reducible refine ld_id ?_);((refine ld_own0 hp 0 rfl ‹_› _ rfl ‹_› (by rfl) ?_)))|((with_reducible refine st_id ?_);first|((refine st_ownx hp 0 rfl rfl (k+1) rfl d1[k]! rfl (by simp only [List.length_set,Array.length_toList];omega) (fun _=>rfl) rfl ?_);clear hp;intro w hp;dsimp only [List.set] at hp)|((refine st_ownx hp 0 rfl rfl (k) rfl d1[k+1]! rfl (by simp only [List.length_set,Array.length_toList];omega) (fun _=>rfl) rfl ?_);clear hp;intro w hp;dsimp only [List.set] at hp))|((with_reducible refine fk_id ?_);(refine fk_mk ?_ ?_))|((with_reducible refine rd_id ?_);((refine rd_ixs rfl rfl ‹_› rfl rfl (by omega) ?_))))<;>(conv=>whnf)))
    all_goals rw [swp_l] at hp
    all_goals exact lp_next (k,Sort.swp d1 (k+1) k) (by show k < k+1;omega) (by (repeat' (first|exact trivial|(refine ⟨rfl,?_⟩)))) ⟨by show a≤k;omega,by show k < b;omega,by rw [Sort.size_swp];exact hs1,hF,hp⟩
  ·obtain rfl:j=a:=by omega
   rw [insInner_low (Nat.le_refl _)] at hF
   ((conv=>whnf);repeat' ((first|((with_reducible refine br_id ?_);first|(with_reducible refine br_f ?_)|((with_reducible refine br_dec (fun hx=>?_) (fun hx=>?_))<;>(try (exfalso;first|omega|contradiction))))|((with_reducible refine ar_id ?_);(refine ar_i64 (by omega) ?_))|((with_reducible refine dr_id ?_);(refine dr_auto tabOk (by kernel_rfl) (by decide+kernel) ?_;(try replace hp:=hp.drew))))<;>(conv=>whnf)))
   exact lp_next (i+1,d1) (by show b - (i+1) < b - i;omega) (by (repeat' (first|exact trivial|(refine ⟨rfl,?_⟩)))) ⟨by show _+1≤i+1;omega,hs1,hF,hp⟩
 ·rw [insOuter_end hge] at hF
  ((conv=>whnf);repeat' (((with_reducible refine br_id ?_);((with_reducible refine br_dec (fun hx=>?_) (fun hx=>?_))<;>(try (exfalso;first|omega|contradiction))))<;>(conv=>whnf)))
  subst hF
  exact ps_val (v':= .tuple #[]) rfl ⟨rfl,hp.shut1 (j:=0) rfl⟩
theorem sift_any (h:(datR (some ⟨g,0,none⟩) c d).ok w0) {lo hi first:Nat} (hlo:lo≤hi) (hb:first+hi≤d.size) (hN:d.size=N) (hn:N≤1000000):Calls Tryz.prog 272 #[.slice (some ⟨g,0,none⟩) N c,i64 lo,i64 hi,i64 first] w0 fun e w'=>e= .returned (.tuple #[])∧Mut (datR (some ⟨g,0,none⟩) c d) (datR (some ⟨g,0,none⟩) c (Sort.siftDown ltU hi first lo d)) w0 w':=by
 have hp:=Hp.one h
 have us:=Tryz.underlying199
 have hdl:d.toList.length=d.size:=by simp
 have hA:(dat (some ⟨g,0,none⟩) c d).A=some ⟨g,0,none⟩:=rfl
 refine calls_x (args:= [_,_,_,_]) tabOk Tryz.func272 Tryz.ntmps272 Tryz.results272 rfl (Nat.le_of_ble_eq_true rfl) ?_
 ((conv=>whnf);repeat' ((first|((with_reducible refine br_id ?_);first|(with_reducible refine br_t ?_)|(with_reducible refine br_f ?_)|(with_reducible refine br_not ?_)|((with_reducible refine br_dec (fun hx=>?_) (fun hx=>?_))<;>(try (exfalso;first|omega|contradiction)))|((with_reducible refine br_eq (fun hx=>?_) (fun hx=>?_))<;>(try (exfalso;first|omega|contradiction)))|((with_reducible refine br_ne (fun hx=>?_) (fun hx=>?_))<;>(try (exfalso;first|omega|contradiction)))|((with_reducible refine br_s (fun hx=>?_) (fun hx=>?_))<;>(try (exfalso;first|omega|contradiction))))|((with_reducible refine ar_id ?_);first|(refine ar_i64 (by omega) ?_)|(refine ar_u32 (by omega) ?_)|(refine ar_u64 (by omega) ?_)|(refine ar_u8 (by omega) ?_))|((with_reducible refine cn_id ?_);first|(refine cn rfl ?_)|(refine cn ‹_› ?_)|(refine cn (by omega) ?_)|(refine cn (Chg.refl _ _) ?_))|((with_reducible refine ld_id ?_);first|(apply ld_hs hp;(focus repeat' constructor);exact rfl)|(refine ld_of ‹_› ?_))|((with_reducible refine ldn_id ?_);first|(apply lda_hs hp;(focus repeat' constructor);exact rfl)|(apply ldn_hs hp;(focus repeat' constructor);exact rfl;exact rfl))|((with_reducible refine al_id ?_);(refine al_cel hp ?_;clear hp;intro bb w hp))|((with_reducible refine st_id ?_);first|(apply sta_hs hp;(focus repeat' constructor);exact rfl;exact rfl;clear hp;intro w hp;(try dsimp only [List.set] at hp))|(apply st_hs hp;(focus repeat' constructor);exact rfl;exact rfl;clear hp;intro w hp;(try dsimp only [List.set] at hp)))|((with_reducible refine gen_id ?_);first|(apply gen_build;exact rfl;exact rfl)|(apply gen_len;exact rfl;exact rfl;assumption)|(apply gen_min;exact rfl;exact rfl;exact rfl)|(apply gen_max;exact rfl;exact rfl;exact rfl)|(apply gen_ix;exact rfl;exact rfl;exact rfl;exact rfl;omega)|(apply gen_ixa;exact rfl;exact rfl;exact rfl;exact rfl;omega))|((with_reducible refine dr_id ?_);first|(refine dr_auto tabOk (by kernel_rfl) (by decide+kernel) ?_;(try replace hp:=hp.drew))|(refine dr_autog tabOk (by kernel_rfl) (by decide+kernel) ?_;(try replace hp:=hp.drew))|(refine dr_autot tabOk (by kernel_rfl) (by decide+kernel) ?_;(try replace hp:=hp.drew)))|((with_reducible refine fk_id ?_);(refine fk_mk ?_ ?_))|((with_reducible refine rd_id ?_);first|(apply rd_len;exact rfl;exact rfl;assumption)|(apply rd_ix;exact rfl;exact rfl;exact rfl;exact rfl;omega)))<;>(conv=>whnf)))
 refine lp_inv (α:=Nat×Array UInt32) (fun x=> [(0, .slice (some ⟨g,0,none⟩) N c),(2,i64 hi),(3,i64 first),(8,i64 x.1)]) (fun x w=>x.1≤hi∧x.2.size=d.size∧Sort.siftDown ltU hi first x.1 x.2=Sort.siftDown ltU hi first lo d∧Hp (datR (some ⟨g,0,none⟩) c d).dom w0 w [datR (some ⟨g,0,none⟩) c x.2]) (fun x=>hi - x.1) (lo,d) (by (repeat' (first|exact trivial|(refine ⟨rfl,?_⟩)))) ⟨hlo,rfl,rfl,hp⟩ ?_
 clear hp
 rintro ⟨r,d1⟩ e0 w ⟨hr,hs1,hF,hp⟩
 dsimp only at hr hs1 hF hp ⊢
 rcases Nat.lt_or_ge (2*r+1) hi with hlt|hge
 ·have hx1:=sat_ d1 (i:=first+(2*r+1)) (by omega)
  have hx0:=sat_ d1 (i:=first+r) (by omega)
  have hless1:=fun w=>less_any w d1[first+(2*r+1)]! d1[first+(2*r+2)]!
  rcases Nat.lt_or_ge (2*r+2) hi with h2|h2
  ·have hx2:=sat_ d1 (i:=first+(2*r+2)) (by omega)
   cases hl:ltU d1[first+(2*r+1)]! d1[first+(2*r+2)]! with
   |true=>
    rw [sift_step hlt (ch:=2*r+2) (.inl ⟨rfl,h2,hl⟩)] at hF
    rw [hl] at hless1
    have hless2:=fun w=>less_any w d1[first+r]! d1[first+(2*r+2)]!
    cases hl2:ltU d1[first+r]! d1[first+(2*r+2)]! with
    |false=>
     rw [hl2] at hless2 hF
     rw [if_neg (by simp)] at hF
     ((conv=>whnf);repeat' ((first|((with_reducible refine br_id ?_);first|(with_reducible refine br_t ?_)|(with_reducible refine br_f ?_)|(with_reducible refine br_not ?_)|((with_reducible refine br_dec (fun hx=>?_) (fun hx=>?_))<;>(try (exfalso;first|omega|contradiction))))|((with_reducible refine ar_id ?_);first|((refine ar_n (2*r) (by omega) (by omega) ?_))|((refine ar_n (2*r+1) (by omega) (by omega) ?_))|((refine ar_n (2*r+2) (by omega) (by omega) ?_))|((refine ar_n (first+(2*r+1)) (by omega) (by omega) ?_))|((refine ar_n (first+(2*r+2)) (by omega) (by omega) ?_))|((refine ar_n (first+r) (by omega) (by omega) ?_)))|((with_reducible refine ld_id ?_);((refine ld_own0 hp 0 rfl ‹_› _ rfl ‹_› (by rfl) ?_)))|((with_reducible refine dr_id ?_);(refine dr_auto tabOk (by kernel_rfl) (by decide+kernel) ?_;(try replace hp:=hp.drew)))|((with_reducible refine cl_id ?_);first|((refine cl_eq ((hless1 _)) rfl rfl ?_;rintro e w ⟨rfl,hcc⟩;replace hp:=hp.call0 hcc;refine ⟨_,rfl,?_⟩))|((refine cl_eq ((hless2 _)) rfl rfl ?_;rintro e w ⟨rfl,hcc⟩;replace hp:=hp.call0 hcc;refine ⟨_,rfl,?_⟩)))|((with_reducible refine rd_id ?_);((refine rd_ixs rfl rfl ‹_› rfl rfl (by omega) ?_))))<;>(conv=>whnf)))
     subst hF
     exact ps_val (v':= .tuple #[]) rfl ⟨rfl,hp.shut1 (j:=0) rfl⟩
    |true=>
     rw [hl2] at hless2 hF
     rw [if_pos rfl] at hF
     ((conv=>whnf);repeat' ((first|((with_reducible refine br_id ?_);((with_reducible refine br_dec (fun hx=>?_) (fun hx=>?_))<;>(try (exfalso;first|omega|contradiction))))|((with_reducible refine ar_id ?_);first|((refine ar_n (2*r) (by omega) (by omega) ?_))|((refine ar_n (2*r+1) (by omega) (by omega) ?_))))<;>(conv=>whnf)))
     refine dr_auto tabOk (by kernel_rfl) (by decide+kernel) ?_
     replace hp:=hp.drew
     ((conv=>whnf);repeat' ((first|((with_reducible refine br_id ?_);first|(with_reducible refine br_t ?_)|((with_reducible refine br_dec (fun hx=>?_) (fun hx=>?_))<;>(try (exfalso;first|omega|contradiction))))|((with_reducible refine ar_id ?_);first|((refine ar_n (2*r+2) (by omega) (by omega) ?_))|((refine ar_n (first+(2*r+1)) (by omega) (by omega) ?_))|((refine ar_n (first+(2*r+2)) (by omega) (by omega) ?_)))|((with_reducible refine ld_id ?_);((refine ld_own0 hp 0 rfl ‹_› _ rfl ‹_› (by rfl) ?_)))|((with_reducible refine cl_id ?_);((refine cl_eq ((hless1 _)) rfl rfl ?_;rintro e w ⟨rfl,hcc⟩;replace hp:=hp.call0 hcc;refine ⟨_,rfl,?_⟩)))|((with_reducible refine rd_id ?_);((refine rd_ixs rfl rfl ‹_› rfl rfl (by omega) ?_))))<;>(conv=>whnf)))
     refine dr_auto tabOk (by kernel_rfl) (by decide+kernel) ?_
     replace hp:=hp.drew
     ((conv=>whnf);repeat' ((first|((with_reducible refine br_id ?_);first|(with_reducible refine br_t ?_)|(with_reducible refine br_not ?_))|((with_reducible refine ar_id ?_);first|((refine ar_n (first+(2*r+2)) (by omega) (by omega) ?_))|((refine ar_n (first+r) (by omega) (by omega) ?_)))|((with_reducible refine ld_id ?_);((refine ld_own0 hp 0 rfl ‹_› _ rfl ‹_› (by rfl) ?_)))|((with_reducible refine cl_id ?_);((refine cl_eq ((hless2 _)) rfl rfl ?_;rintro e w ⟨rfl,hcc⟩;replace hp:=hp.call0 hcc;refine ⟨_,rfl,?_⟩)))|((with_reducible refine rd_id ?_);((refine rd_ixs rfl rfl ‹_› rfl rfl (by omega) ?_))))<;>(conv=>whnf)))
     refine dr_autos [7] 1000 tabOk (by kernel_rfl) (by decide+kernel) ?_
     replace hp:=hp.drew
     ((conv=>whnf);repeat' ((first|((with_reducible refine ar_id ?_);first|((refine ar_n (first+(2*r+2)) (by omega) (by omega) ?_))|((refine ar_n (first+r) (by omega) (by omega) ?_)))|((with_reducible refine cn_id ?_);first|(refine cn rfl ?_)|(refine cn (Chg.refl _ _) ?_))|((with_reducible refine ld_id ?_);((refine ld_own0 hp 0 rfl ‹_› _ rfl ‹_› (by rfl) ?_)))|((with_reducible refine st_id ?_);first|((refine st_ownx hp 0 rfl rfl (first+r) rfl d1[first+(2*r+2)]! rfl (by simp only [List.length_set,Array.length_toList];omega) (fun _=>rfl) rfl ?_);clear hp;intro w hp;dsimp only [List.set] at hp)|((refine st_ownx hp 0 rfl rfl (first+(2*r+2)) rfl d1[first+r]! rfl (by simp only [List.length_set,Array.length_toList];omega) (fun _=>rfl) rfl ?_);clear hp;intro w hp;dsimp only [List.set] at hp))|((with_reducible refine fk_id ?_);(refine fk_mk ?_ ?_))|((with_reducible refine rd_id ?_);((refine rd_ixs rfl rfl ‹_› rfl rfl (by omega) ?_))))<;>(conv=>whnf)))
     all_goals rw [swp_l] at hp
     all_goals exact lp_next (2*r+2,Sort.swp d1 (first+r) (first+(2*r+2))) (by show hi - (2*r+2) < hi - r;omega) (by (repeat' (first|exact trivial|(refine ⟨rfl,?_⟩)))) ⟨by show 2*r+2≤hi;omega,by rw [Sort.size_swp];exact hs1,hF,hp⟩
   |false=>
    rw [sift_step hlt (ch:=2*r+1) (.inr ⟨rfl, .inr hl⟩)] at hF
    rw [hl] at hless1
    have hless2:=fun w=>less_any w d1[first+r]! d1[first+(2*r+1)]!
    cases hl2:ltU d1[first+r]! d1[first+(2*r+1)]! with
    |false=>
     rw [hl2] at hless2 hF
     rw [if_neg (by simp)] at hF
     ((conv=>whnf);repeat' ((first|((with_reducible refine br_id ?_);first|(with_reducible refine br_t ?_)|(with_reducible refine br_f ?_)|(with_reducible refine br_not ?_)|((with_reducible refine br_dec (fun hx=>?_) (fun hx=>?_))<;>(try (exfalso;first|omega|contradiction))))|((with_reducible refine ar_id ?_);first|((refine ar_n (2*r) (by omega) (by omega) ?_))|((refine ar_n (2*r+1) (by omega) (by omega) ?_))|((refine ar_n (2*r+2) (by omega) (by omega) ?_))|((refine ar_n (first+(2*r+1)) (by omega) (by omega) ?_))|((refine ar_n (first+(2*r+2)) (by omega) (by omega) ?_))|((refine ar_n (first+r) (by omega) (by omega) ?_)))|((with_reducible refine ld_id ?_);((refine ld_own0 hp 0 rfl ‹_› _ rfl ‹_› (by rfl) ?_)))|((with_reducible refine dr_id ?_);(refine dr_auto tabOk (by kernel_rfl) (by decide+kernel) ?_;(try replace hp:=hp.drew)))|((with_reducible refine cl_id ?_);first|((refine cl_eq ((hless1 _)) rfl rfl ?_;rintro e w ⟨rfl,hcc⟩;replace hp:=hp.call0 hcc;refine ⟨_,rfl,?_⟩))|((refine cl_eq ((hless2 _)) rfl rfl ?_;rintro e w ⟨rfl,hcc⟩;replace hp:=hp.call0 hcc;refine ⟨_,rfl,?_⟩)))|((with_reducible refine rd_id ?_);((refine rd_ixs rfl rfl ‹_› rfl rfl (by omega) ?_))))<;>(conv=>whnf)))
     subst hF
     exact ps_val (v':= .tuple #[]) rfl ⟨rfl,hp.shut1 (j:=0) rfl⟩
    |true=>
     rw [hl2] at hless2 hF
     rw [if_pos rfl] at hF
     ((conv=>whnf);repeat' ((first|((with_reducible refine br_id ?_);((with_reducible refine br_dec (fun hx=>?_) (fun hx=>?_))<;>(try (exfalso;first|omega|contradiction))))|((with_reducible refine ar_id ?_);first|((refine ar_n (2*r) (by omega) (by omega) ?_))|((refine ar_n (2*r+1) (by omega) (by omega) ?_))))<;>(conv=>whnf)))
     refine dr_auto tabOk (by kernel_rfl) (by decide+kernel) ?_
     replace hp:=hp.drew
     ((conv=>whnf);repeat' ((first|((with_reducible refine br_id ?_);first|(with_reducible refine br_t ?_)|(with_reducible refine br_f ?_)|((with_reducible refine br_dec (fun hx=>?_) (fun hx=>?_))<;>(try (exfalso;first|omega|contradiction))))|((with_reducible refine ar_id ?_);first|((refine ar_n (2*r+2) (by omega) (by omega) ?_))|((refine ar_n (first+(2*r+1)) (by omega) (by omega) ?_))|((refine ar_n (first+(2*r+2)) (by omega) (by omega) ?_)))|((with_reducible refine ld_id ?_);((refine ld_own0 hp 0 rfl ‹_› _ rfl ‹_› (by rfl) ?_)))|((with_reducible refine cl_id ?_);((refine cl_eq ((hless1 _)) rfl rfl ?_;rintro e w ⟨rfl,hcc⟩;replace hp:=hp.call0 hcc;refine ⟨_,rfl,?_⟩)))|((with_reducible refine rd_id ?_);((refine rd_ixs rfl rfl ‹_› rfl rfl (by omega) ?_))))<;>(conv=>whnf)))
     refine dr_auto tabOk (by kernel_rfl) (by decide+kernel) ?_
     replace hp:=hp.drew
     ((conv=>whnf);repeat' ((first|((with_reducible refine br_id ?_);first|(with_reducible refine br_t ?_)|(with_reducible refine br_not ?_))|((with_reducible refine ar_id ?_);first|((refine ar_n (first+(2*r+1)) (by omega) (by omega) ?_))|((refine ar_n (first+r) (by omega) (by omega) ?_)))|((with_reducible refine ld_id ?_);((refine ld_own0 hp 0 rfl ‹_› _ rfl ‹_› (by rfl) ?_)))|((with_reducible refine cl_id ?_);((refine cl_eq ((hless2 _)) rfl rfl ?_;rintro e w ⟨rfl,hcc⟩;replace hp:=hp.call0 hcc;refine ⟨_,rfl,?_⟩)))|((with_reducible refine rd_id ?_);((refine rd_ixs rfl rfl ‹_› rfl rfl (by omega) ?_))))<;>(conv=>whnf)))
     refine dr_autos [7] 1000 tabOk (by kernel_rfl) (by decide+kernel) ?_
     replace hp:=hp.drew
     ((conv=>whnf);repeat' ((first|((with_reducible refine ar_id ?_);first|((refine ar_n (first+(2*r+1)) (by omega) (by omega) ?_))|((refine ar_n (first+r) (by omega) (by omega) ?_)))|((with_reducible refine cn_id ?_);first|(refine cn rfl ?_)|(refine cn (Chg.refl _ _) ?_))|((with_reducible refine ld_id ?_);((refine ld_own0 hp 0 rfl ‹_› _ rfl ‹_› (by rfl) ?_)))|((with_reducible refine st_id ?_);first|((refine st_ownx hp 0 rfl rfl (first+r) rfl d1[first+(2*r+1)]! rfl (by simp only [List.length_set,Array.length_toList];omega) (fun _=>rfl) rfl ?_);clear hp;intro w hp;dsimp only [List.set] at hp)|((refine st_ownx hp 0 rfl rfl (first+(2*r+1)) rfl d1[first+r]! rfl (by simp only [List.length_set,Array.length_toList];omega) (fun _=>rfl) rfl ?_);clear hp;intro w hp;dsimp only [List.set] at hp))|((with_reducible refine fk_id ?_);(refine fk_mk ?_ ?_))|((with_reducible refine rd_id ?_);((refine rd_ixs rfl rfl ‹_› rfl rfl (by omega) ?_))))<;>(conv=>whnf)))
     all_goals rw [swp_l] at hp
     all_goals exact lp_next (2*r+1,Sort.swp d1 (first+r) (first+(2*r+1))) (by show hi - (2*r+1) < hi - r;omega) (by (repeat' (first|exact trivial|(refine ⟨rfl,?_⟩)))) ⟨by show 2*r+1≤hi;omega,by rw [Sort.size_swp];exact hs1,hF,hp⟩
  ·rw [sift_step hlt (ch:=2*r+1) (.inr ⟨rfl, .inl h2⟩)] at hF
   have hless2:=fun w=>less_any w d1[first+r]! d1[first+(2*r+1)]!
   cases hl2:ltU d1[first+r]! d1[first+(2*r+1)]! with
   |false=>
    rw [hl2] at hless2 hF
    rw [if_neg (by simp)] at hF
    ((conv=>whnf);repeat' ((first|((with_reducible refine br_id ?_);first|(with_reducible refine br_f ?_)|(with_reducible refine br_not ?_)|((with_reducible refine br_dec (fun hx=>?_) (fun hx=>?_))<;>(try (exfalso;first|omega|contradiction))))|((with_reducible refine ar_id ?_);first|((refine ar_n (2*r) (by omega) (by omega) ?_))|((refine ar_n (2*r+1) (by omega) (by omega) ?_))|((refine ar_n (2*r+2) (by omega) (by omega) ?_))|((refine ar_n (first+(2*r+1)) (by omega) (by omega) ?_))|((refine ar_n (first+r) (by omega) (by omega) ?_)))|((with_reducible refine ld_id ?_);((refine ld_own0 hp 0 rfl ‹_› _ rfl ‹_› (by rfl) ?_)))|((with_reducible refine dr_id ?_);(refine dr_auto tabOk (by kernel_rfl) (by decide+kernel) ?_;(try replace hp:=hp.drew)))|((with_reducible refine cl_id ?_);((refine cl_eq ((hless2 _)) rfl rfl ?_;rintro e w ⟨rfl,hcc⟩;replace hp:=hp.call0 hcc;refine ⟨_,rfl,?_⟩)))|((with_reducible refine rd_id ?_);((refine rd_ixs rfl rfl ‹_› rfl rfl (by omega) ?_))))<;>(conv=>whnf)))
    subst hF
    exact ps_val (v':= .tuple #[]) rfl ⟨rfl,hp.shut1 (j:=0) rfl⟩
   |true=>
    rw [hl2] at hless2 hF
    rw [if_pos rfl] at hF
    ((conv=>whnf);repeat' ((first|((with_reducible refine br_id ?_);((with_reducible refine br_dec (fun hx=>?_) (fun hx=>?_))<;>(try (exfalso;first|omega|contradiction))))|((with_reducible refine ar_id ?_);first|((refine ar_n (2*r) (by omega) (by omega) ?_))|((refine ar_n (2*r+1) (by omega) (by omega) ?_))))<;>(conv=>whnf)))
    refine dr_auto tabOk (by kernel_rfl) (by decide+kernel) ?_
    replace hp:=hp.drew
    ((conv=>whnf);repeat' ((first|((with_reducible refine br_id ?_);first|(with_reducible refine br_f ?_)|((with_reducible refine br_dec (fun hx=>?_) (fun hx=>?_))<;>(try (exfalso;first|omega|contradiction))))|((with_reducible refine ar_id ?_);((refine ar_n (2*r+2) (by omega) (by omega) ?_))))<;>(conv=>whnf)))
    refine dr_auto tabOk (by kernel_rfl) (by decide+kernel) ?_
    replace hp:=hp.drew
    ((conv=>whnf);repeat' ((first|((with_reducible refine br_id ?_);first|(with_reducible refine br_t ?_)|(with_reducible refine br_not ?_))|((with_reducible refine ar_id ?_);first|((refine ar_n (first+(2*r+1)) (by omega) (by omega) ?_))|((refine ar_n (first+r) (by omega) (by omega) ?_)))|((with_reducible refine ld_id ?_);((refine ld_own0 hp 0 rfl ‹_› _ rfl ‹_› (by rfl) ?_)))|((with_reducible refine cl_id ?_);((refine cl_eq ((hless2 _)) rfl rfl ?_;rintro e w ⟨rfl,hcc⟩;replace hp:=hp.call0 hcc;refine ⟨_,rfl,?_⟩)))|((with_reducible refine rd_id ?_);((refine rd_ixs rfl rfl ‹_› rfl rfl (by omega) ?_))))<;>(conv=>whnf)))
    refine dr_autos [7] 1000 tabOk (by kernel_rfl) (by decide+kernel) ?_
    replace hp:=hp.drew
    ((conv=>whnf);repeat' ((first|((with_reducible refine ar_id ?_);first|((refine ar_n (first+(2*r+1)) (by omega) (by omega) ?_))|((refine ar_n (first+r) (by omega) (by omega) ?_)))|((with_reducible refine cn_id ?_);first|(refine cn rfl ?_)|(refine cn (Chg.refl _ _) ?_))|((with_reducible refine ld_id ?_);((refine ld_own0 hp 0 rfl ‹_› _ rfl ‹_› (by rfl) ?_)))|((with_reducible refine st_id ?_);first|((refine st_ownx hp 0 rfl rfl (first+r) rfl d1[first+(2*r+1)]! rfl (by simp only [List.length_set,Array.length_toList];omega) (fun _=>rfl) rfl ?_);clear hp;intro w hp;dsimp only [List.set] at hp)|((refine st_ownx hp 0 rfl rfl (first+(2*r+1)) rfl d1[first+r]! rfl (by simp only [List.length_set,Array.length_toList];omega) (fun _=>rfl) rfl ?_);clear hp;intro w hp;dsimp only [List.set] at hp))|((with_reducible refine fk_id ?_);(refine fk_mk ?_ ?_))|((with_reducible refine rd_id ?_);((refine rd_ixs rfl rfl ‹_› rfl rfl (by omega) ?_))))<;>(conv=>whnf)))
    all_goals rw [swp_l] at hp
    all_goals exact lp_next (2*r+1,Sort.swp d1 (first+r) (first+(2*r+1))) (by show hi - (2*r+1) < hi - r;omega) (by (repeat' (first|exact trivial|(refine ⟨rfl,?_⟩)))) ⟨by show 2*r+1≤hi;omega,by rw [Sort.size_swp];exact hs1,hF,hp⟩
 ·rw [sift_end hge] at hF
  ((conv=>whnf);repeat' ((first|((with_reducible refine br_id ?_);((with_reducible refine br_dec (fun hx=>?_) (fun hx=>?_))<;>(try (exfalso;first|omega|contradiction))))|((with_reducible refine ar_id ?_);first|((refine ar_n (2*r) (by omega) (by omega) ?_))|((refine ar_n (2*r+1) (by omega) (by omega) ?_))))<;>(conv=>whnf)))
  subst hF
  exact ps_val (v':= .tuple #[]) rfl ⟨rfl,hp.shut1 (j:=0) rfl⟩
theorem heap_any (h:(datR (some ⟨g,0,none⟩) c d).ok w0) {a b:Nat} (hab:a < b) (hb:b≤d.size) (hN:d.size=N) (hn:N≤1000000):Calls Tryz.prog 250 #[.slice (some ⟨g,0,none⟩) N c,i64 a,i64 b] w0 fun e w'=>e= .returned (.tuple #[])∧Mut (datR (some ⟨g,0,none⟩) c d) (datR (some ⟨g,0,none⟩) c (Sort.heapSort ltU d a b)) w0 w':=by
 have hp:=Hp.one h
 have us:=Tryz.underlying199
 have hA:(dat (some ⟨g,0,none⟩) c d).A=some ⟨g,0,none⟩:=rfl
 obtain ⟨m,rfl⟩:∃m,b=a+(m+1):=⟨b - a - 1,by omega⟩
 have hF0:Sort.heapSort ltU d a (a+(m+1))=Sort.heapPop ltU a (m+1) (Sort.heapBuild ltU (m+1) a (m / 2+1) d):=by
  unfold Sort.heapSort
  rw [show a+(m+1) - a=m+1 by omega,show m+1 - 1=m by omega]
 have hq:((m:Nat):Int).tdiv 2=((m / 2:Nat):Int):=(Int.ofNat_tdiv m 2).symm
 rw [hF0]
 refine calls_x (args:= [_,_,_]) tabOk Tryz.func250 Tryz.ntmps250 Tryz.results250 rfl (Nat.le_of_ble_eq_true rfl) ?_
 ((conv=>whnf);repeat' ((first|((with_reducible refine ar_id ?_);first|((refine ar_n (m+1) (by omega) (by omega) ?_))|((refine ar_n (m) (by omega) (by omega) ?_))|(refine ar_i64 (by omega) ?_))|((with_reducible refine cn_id ?_);(refine cn (by omega) ?_)))<;>(conv=>whnf)))
 rw [hq]
 refine lp_inv (α:=Nat×Array UInt32) (fun x=> [(0, .slice (some ⟨g,0,none⟩) N c),(6,i64 a),(7,i64 0),(8,i64 (m+1:Nat)),(9,i64 ((x.1:Int) - 1))]) (fun x w=>x.1≤m / 2+1∧x.2.size=N∧Sort.heapBuild ltU (m+1) a x.1 x.2=Sort.heapBuild ltU (m+1) a (m / 2+1) d∧Hp (datR (some ⟨g,0,none⟩) c d).dom w0 w [datR (some ⟨g,0,none⟩) c x.2]) (fun x=>x.1) (m / 2+1,d) (by rw [show (((m / 2+1:Nat):Int) - 1)=((m / 2:Nat):Int) by omega];(repeat' (first|exact trivial|(refine ⟨rfl,?_⟩)))) ⟨Nat.le_refl _,hN,rfl,hp⟩ ?_
 clear hp
 rintro ⟨k,d1⟩ e0 w ⟨hk,hs1,hF,hp⟩
 dsimp only at hk hs1 hF hp ⊢
 rcases k with _|k
 ·have hF1:d1=Sort.heapBuild ltU (m+1) a (m / 2+1) d:=hF
  rw [←hF1]
  clear hF hF1
  ((conv=>whnf);repeat' ((first|((with_reducible refine br_id ?_);((with_reducible refine br_dec (fun hx=>?_) (fun hx=>?_))<;>(try (exfalso;first|omega|contradiction))))|((with_reducible refine ar_id ?_);((refine ar_n (m) (by omega) (by omega) ?_))))<;>(conv=>whnf)))
  refine lp_inv (α:=Nat×Array UInt32) (fun x=> [(0, .slice (some ⟨g,0,none⟩) N c),(6,i64 a),(7,i64 0),(10,i64 ((x.1:Int) - 1))]) (fun x w=>x.1≤m+1∧x.2.size=N∧Sort.heapPop ltU a x.1 x.2=Sort.heapPop ltU a (m+1) d1∧Hp (datR (some ⟨g,0,none⟩) c d).dom w0 w [datR (some ⟨g,0,none⟩) c x.2]) (fun x=>x.1) (m+1,d1) (by rw [show (((m+1:Nat):Int) - 1)=(m:Nat) by omega];(repeat' (first|exact trivial|(refine ⟨rfl,?_⟩)))) ⟨Nat.le_refl _,hs1,rfl,hp⟩ ?_
  clear hp
  rintro ⟨k,d2⟩ e0 w ⟨hk,hs2,hF,hp⟩
  dsimp only at hk hs2 hF hp ⊢
  rcases k with _|k
  ·((conv=>whnf);repeat' (((with_reducible refine br_id ?_);((with_reducible refine br_dec (fun hx=>?_) (fun hx=>?_))<;>(try (exfalso;first|omega|contradiction))))<;>(conv=>whnf)))
   have hF1:d2=_:=hF
   subst hF1
   exact ps_val (v':= .tuple #[]) rfl ⟨rfl,hp.shut1 (j:=0) rfl⟩
  ·rw [show (((k+1:Nat):Int) - 1)=(k:Nat) by omega]
   have hx1:=sat_ d2 (i:=a) (by omega)
   have hx2:=sat_ d2 (i:=a+k) (by omega)
   ((conv=>whnf);repeat' (((with_reducible refine br_id ?_);((with_reducible refine br_dec (fun hx=>?_) (fun hx=>?_))<;>(try (exfalso;first|omega|contradiction))))<;>(conv=>whnf)))
   refine dr_autos [5] 1000 tabOk (by kernel_rfl) (by decide+kernel) ?_
   replace hp:=hp.drew
   ((conv=>whnf);repeat' ((first|((with_reducible refine ar_id ?_);((refine ar_n (a+k) (by omega) (by omega) ?_)))|((with_reducible refine cn_id ?_);first|(refine cn rfl ?_)|(refine cn (Chg.refl _ _) ?_))|((with_reducible refine ld_id ?_);((refine ld_own0 hp 0 rfl ‹_› _ rfl ‹_› (by rfl) ?_)))|((with_reducible refine st_id ?_);first|((refine st_ownx hp 0 rfl rfl (a) rfl d2[a+k]! rfl (by simp only [List.length_set,Array.length_toList];omega) (fun _=>rfl) rfl ?_);clear hp;intro w hp;dsimp only [List.set] at hp)|((refine st_ownx hp 0 rfl rfl (a+k) rfl d2[a]! rfl (by simp only [List.length_set,Array.length_toList];omega) (fun _=>rfl) rfl ?_);clear hp;intro w hp;dsimp only [List.set] at hp))|((with_reducible refine fk_id ?_);(refine fk_mk ?_ ?_))|((with_reducible refine rd_id ?_);((refine rd_ixs rfl rfl ‹_› rfl rfl (by omega) ?_))))<;>(conv=>whnf)))
   all_goals rw [swp_l] at hp
   all_goals refine cl_eq (sift_any (N:=N) (hp.get (j:=0) rfl) (lo:=0) (hi:=k) (first:=a) (Nat.zero_le _) (by rw [Sort.size_swp];omega) (by rw [Sort.size_swp];exact hs2) hn) rfl rfl ?_
   all_goals
    rintro e w ⟨rfl,hmt⟩
    replace hp:=hp.via (j:=0) rfl hmt
    clear hmt
    dsimp only [List.set] at hp
    refine ⟨_,rfl,?_⟩
    ((conv=>whnf);repeat' (((with_reducible refine ar_id ?_);(refine ar_i64 (by omega) ?_))<;>(conv=>whnf)))
   all_goals exact lp_next (k,Sort.siftDown ltU k a 0 (Sort.swp d2 a (a+k))) (by show k < k+1;omega) (by (repeat' (first|exact trivial|(refine ⟨rfl,?_⟩)))) ⟨by show k≤m+1;omega,by rw [sift_size,Sort.size_swp];exact hs2,hF,hp⟩
 ·rw [show (((k+1:Nat):Int) - 1)=(k:Nat) by omega]
  ((conv=>whnf);repeat' ((first|((with_reducible refine br_id ?_);((with_reducible refine br_dec (fun hx=>?_) (fun hx=>?_))<;>(try (exfalso;first|omega|contradiction))))|((with_reducible refine ar_id ?_);(refine ar_i64 (by omega) ?_))|((with_reducible refine cl_id ?_);((refine cl_eq (sift_any (N:=N) (hp.get (j:=0) rfl) (lo:=k) (hi:=m+1) (first:=a) (by omega) (by omega) hs1 hn) rfl rfl ?_;rintro e w ⟨rfl,hmt⟩;replace hp:=hp.via (j:=0) rfl hmt;clear hmt;dsimp only [List.set] at hp;refine ⟨_,rfl,?_⟩))))<;>(conv=>whnf)))
  exact lp_next (k,Sort.siftDown ltU (m+1) a k d1) (by show k < k+1;omega) (by (repeat' (first|exact trivial|(refine ⟨rfl,?_⟩)))) ⟨by show k≤m / 2+1;omega,by rw [sift_size];exact hs1,hF,hp⟩
end
end Go.Proofs.YteabebmlclgakaaGreat
