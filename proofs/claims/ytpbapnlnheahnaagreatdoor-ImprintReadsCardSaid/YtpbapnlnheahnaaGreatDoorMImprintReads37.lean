/- MImprintReads37: parts of the proof of ImprintReads: Imp2, BlobSame. No condition of their own. -/
import Derived.Test.YtpbapnlnheahnaaGreatDoorMImprintReads28
import Derived.Test.YtpbapnlnheahnaaGreatDoorMImprintReads13
import Derived.Test.YtpbapnlnheahnaaGreatDoorMImprintReads12
import Derived.Test.YtpbapnlnheahnaaGreatDoorMImprintReads16
set_option linter.unusedSimpArgs false
set_option linter.unusedVariables false
namespace Go.Proofs.YtpbapnlnheahnaaGreatDoor
open Go.RowKit
set_option maxRecDepth 100000
set_option maxHeartbeats 4000000
section
variable {w0 : World} {b room : Nat} {s : Sl UInt8} {bad : Int} {L : List UInt8} {f : Value}
theorem layW0_any {width:Nat} (hw:1≤width∧width≤8) (hI:WrI room L s bad) (h:(star (wrRs b room s bad)).ok w0) (hL:L.length≤1000000) (hr:room≤2000000000):
  Calls Tryz.prog 44 #[ptr b,i64 width,(Sl.nil (α:=Blk)).v,f] w0 fun e w'=>∃(s':Sl UInt8) (bad':Int),WrI room (L++numB 0 width) s' bad'∧e= .returned (.tuple #[])∧Mut (star (wrRs b room s bad)) (star (wrRs b room s' bad')) w0 w':=by
 have hp:=Hp.start1 h
 have u1:=Tryz.underlying26
 have hf:numFit 0 width=true:=by unfold numFit;simp
 refine calls_x (args:= [_,_,_,_]) tabOk Tryz.func44 Tryz.ntmps44 Tryz.results44 rfl (Nat.le_of_ble_eq_true rfl) ?_
 ((conv=>whnf);repeat' ((first|((with_reducible apply ar_id);(refine ar_u64 (by simp [Sl.nil]) ?_))|((with_reducible apply gen_id);apply gen_len;exact rfl;exact rfl;assumption))<;>(conv=>whnf)))
 refine cl_eq (wnumI_any 0 width hw hf (by omega) hI (hp.get (j:=0) rfl) hL hr) rfl rfl ?_
 rintro e w ⟨s2,bad2,hI2,rfl,hm⟩
 replace hp:=hp.via (j:=0) rfl hm
 clear hm
 dsimp only [List.set] at hp
 refine ⟨_,rfl,?_⟩
 ((conv=>whnf);repeat' (((with_reducible apply gen_id);apply gen_len;exact rfl;exact rfl;assumption)<;>(conv=>whnf)))
 refine lp_inv (α:=Unit) (fun _=> [(16,(Sl.nil (α:=Blk)).v),(17,i64 0),(18,i64 0)]) (fun _ w=>Hp (star (wrRs b room s bad)).dom w0 w [star (wrRs b room s2 bad2)]) (fun _=>0) () (by (repeat' (first|exact trivial|(refine ⟨rfl,?_⟩)))) hp ?_
 clear hp
 rintro _ e0 w hp
 ((conv=>whnf);repeat' (((with_reducible apply br_id);(with_reducible refine br_dec (fun hx=>?_) (fun hx=>?_))<;>(try (exfalso;first|omega|contradiction)))<;>(conv=>whnf)))
 exact ps_val (v':= .tuple #[]) rfl ⟨s2,bad2,hI2,rfl,hp.shut1 (j:=0) rfl⟩
theorem layS0_any {width:Nat} (hw:1≤width∧width≤8) (hI:WrI room L s bad) (h:(star (wrRs b room s bad)).ok w0) (hL:L.length≤1000000) (hr:room≤2000000000):
  Calls Tryz.prog 48 #[ptr b,i64 width,(Sl.nil (α:=Sess)).v,f] w0 fun e w'=>∃(s':Sl UInt8) (bad':Int),WrI room (L++numB 0 width) s' bad'∧e= .returned (.tuple #[])∧Mut (star (wrRs b room s bad)) (star (wrRs b room s' bad')) w0 w':=by
 have hp:=Hp.start1 h
 have u1:=Tryz.underlying27
 have hf:numFit 0 width=true:=by unfold numFit;simp
 refine calls_x (args:= [_,_,_,_]) tabOk Tryz.func48 Tryz.ntmps48 Tryz.results48 rfl (Nat.le_of_ble_eq_true rfl) ?_
 ((conv=>whnf);repeat' ((first|((with_reducible apply ar_id);(refine ar_u64 (by simp [Sl.nil]) ?_))|((with_reducible apply gen_id);apply gen_len;exact rfl;exact rfl;assumption))<;>(conv=>whnf)))
 refine cl_eq (wnumI_any 0 width hw hf (by omega) hI (hp.get (j:=0) rfl) hL hr) rfl rfl ?_
 rintro e w ⟨s2,bad2,hI2,rfl,hm⟩
 replace hp:=hp.via (j:=0) rfl hm
 clear hm
 dsimp only [List.set] at hp
 refine ⟨_,rfl,?_⟩
 ((conv=>whnf);repeat' (((with_reducible apply gen_id);apply gen_len;exact rfl;exact rfl;assumption)<;>(conv=>whnf)))
 refine lp_inv (α:=Unit) (fun _=> [(16,(Sl.nil (α:=Sess)).v),(17,i64 0),(18,i64 0)]) (fun _ w=>Hp (star (wrRs b room s bad)).dom w0 w [star (wrRs b room s2 bad2)]) (fun _=>0) () (by (repeat' (first|exact trivial|(refine ⟨rfl,?_⟩)))) hp ?_
 clear hp
 rintro _ e0 w hp
 ((conv=>whnf);repeat' (((with_reducible apply br_id);(with_reducible refine br_dec (fun hx=>?_) (fun hx=>?_))<;>(try (exfalso;first|omega|contradiction)))<;>(conv=>whnf)))
 exact ps_val (v':= .tuple #[]) rfl ⟨s2,bad2,hI2,rfl,hp.shut1 (j:=0) rfl⟩
theorem layB0_any {width:Nat} (hw:1≤width∧width≤8) (hI:WrI room L s bad) (h:(star (wrRs b room s bad)).ok w0) (hL:L.length≤1000000) (hr:room≤2000000000):
  Calls Tryz.prog 50 #[ptr b,i64 width,(Sl.nil (α:=Blob)).v,f] w0 fun e w'=>∃(s':Sl UInt8) (bad':Int),WrI room (L++numB 0 width) s' bad'∧e= .returned (.tuple #[])∧Mut (star (wrRs b room s bad)) (star (wrRs b room s' bad')) w0 w':=by
 have hp:=Hp.start1 h
 have u1:=Tryz.underlying28
 have hf:numFit 0 width=true:=by unfold numFit;simp
 refine calls_x (args:= [_,_,_,_]) tabOk Tryz.func50 Tryz.ntmps50 Tryz.results50 rfl (Nat.le_of_ble_eq_true rfl) ?_
 ((conv=>whnf);repeat' ((first|((with_reducible apply ar_id);(refine ar_u64 (by simp [Sl.nil]) ?_))|((with_reducible apply gen_id);apply gen_len;exact rfl;exact rfl;assumption))<;>(conv=>whnf)))
 refine cl_eq (wnumI_any 0 width hw hf (by omega) hI (hp.get (j:=0) rfl) hL hr) rfl rfl ?_
 rintro e w ⟨s2,bad2,hI2,rfl,hm⟩
 replace hp:=hp.via (j:=0) rfl hm
 clear hm
 dsimp only [List.set] at hp
 refine ⟨_,rfl,?_⟩
 ((conv=>whnf);repeat' (((with_reducible apply gen_id);apply gen_len;exact rfl;exact rfl;assumption)<;>(conv=>whnf)))
 refine lp_inv (α:=Unit) (fun _=> [(16,(Sl.nil (α:=Blob)).v),(17,i64 0),(18,i64 0)]) (fun _ w=>Hp (star (wrRs b room s bad)).dom w0 w [star (wrRs b room s2 bad2)]) (fun _=>0) () (by (repeat' (first|exact trivial|(refine ⟨rfl,?_⟩)))) hp ?_
 clear hp
 rintro _ e0 w hp
 ((conv=>whnf);repeat' (((with_reducible apply br_id);(with_reducible refine br_dec (fun hx=>?_) (fun hx=>?_))<;>(try (exfalso;first|omega|contradiction)))<;>(conv=>whnf)))
 exact ps_val (v':= .tuple #[]) rfl ⟨s2,bad2,hI2,rfl,hp.shut1 (j:=0) rfl⟩
theorem layJ0_any {width:Nat} (hw:1≤width∧width≤8) (hI:WrI room L s bad) (h:(star (wrRs b room s bad)).ok w0) (hL:L.length≤1000000) (hr:room≤2000000000):
  Calls Tryz.prog 53 #[ptr b,i64 width,(Sl.nil (α:=Job)).v,f] w0 fun e w'=>∃(s':Sl UInt8) (bad':Int),WrI room (L++numB 0 width) s' bad'∧e= .returned (.tuple #[])∧Mut (star (wrRs b room s bad)) (star (wrRs b room s' bad')) w0 w':=by
 have hp:=Hp.start1 h
 have u1:=Tryz.underlying29
 have hf:numFit 0 width=true:=by unfold numFit;simp
 refine calls_x (args:= [_,_,_,_]) tabOk Tryz.func53 Tryz.ntmps53 Tryz.results53 rfl (Nat.le_of_ble_eq_true rfl) ?_
 ((conv=>whnf);repeat' ((first|((with_reducible apply ar_id);(refine ar_u64 (by simp [Sl.nil]) ?_))|((with_reducible apply gen_id);apply gen_len;exact rfl;exact rfl;assumption))<;>(conv=>whnf)))
 refine cl_eq (wnumI_any 0 width hw hf (by omega) hI (hp.get (j:=0) rfl) hL hr) rfl rfl ?_
 rintro e w ⟨s2,bad2,hI2,rfl,hm⟩
 replace hp:=hp.via (j:=0) rfl hm
 clear hm
 dsimp only [List.set] at hp
 refine ⟨_,rfl,?_⟩
 ((conv=>whnf);repeat' (((with_reducible apply gen_id);apply gen_len;exact rfl;exact rfl;assumption)<;>(conv=>whnf)))
 refine lp_inv (α:=Unit) (fun _=> [(16,(Sl.nil (α:=Job)).v),(17,i64 0),(18,i64 0)]) (fun _ w=>Hp (star (wrRs b room s bad)).dom w0 w [star (wrRs b room s2 bad2)]) (fun _=>0) () (by (repeat' (first|exact trivial|(refine ⟨rfl,?_⟩)))) hp ?_
 clear hp
 rintro _ e0 w hp
 ((conv=>whnf);repeat' (((with_reducible apply br_id);(with_reducible refine br_dec (fun hx=>?_) (fun hx=>?_))<;>(try (exfalso;first|omega|contradiction)))<;>(conv=>whnf)))
 exact ps_val (v':= .tuple #[]) rfl ⟨s2,bad2,hI2,rfl,hp.shut1 (j:=0) rfl⟩
end
abbrev staF:Sta:=⟨⟨1,1,1,1,1,1⟩,0,0,0,Sl.nil,Sl.nil,Sl.nil,Sl.nil⟩
abbrev fC:List Value:=i64 1::i64 1::i64 1::i64 1::i64 1::i64 1::u32 0::i64 0::u32 0::(Sl.nil (α:=Blk)).v::(Sl.nil (α:=Sess)).v::(Sl.nil (α:=Blob)).v::(Sl.nil (α:=Job)).v:: []
theorem iwrite_first {w0:World} {room:Nat} (hr:39≤room∧room≤2000000000):Calls Tryz.prog 18 #[.agg fC.toArray,i64 room] w0 fun e w'=>∃r:Sl UInt8,r.l.length=39∧e= .returned (.tuple #[r.v,i64 0])∧Made (rowR 5 1 u8L r) w0 w':=by
 have hp:=Hp.start (S:=N0) w0
 obtain ⟨hr1,hr2⟩:=hr
 refine calls_x (args:= [_,_]) tabOk Tryz.func18 Tryz.ntmps18 Tryz.results18 rfl (Nat.le_of_ble_eq_true rfl) ?_
 ((conv=>whnf);repeat' (((with_reducible apply al_id);refine al_cel hp ?_;clear hp;intro bb w hp)<;>(conv=>whnf)))
 obtain ⟨b2,hb2⟩:∃b,b=bb:=⟨_,rfl⟩
 subst hb2
 refine cl_eq (wnew_any room hr2) rfl rfl ?_
 rintro e w ⟨bw,rfl,hm⟩
 replace hp:=hp.add hm
 clear hm
 refine ⟨_,rfl,?_⟩
 ((conv=>whnf);repeat' ((first|((with_reducible apply cn_id);refine cn rfl ?_)|((with_reducible apply ld_id);apply ld_hs hp;(focus repeat' constructor);exact rfl)|((with_reducible apply ldn_id);apply ldn_hs hp;(focus repeat' constructor);exact rfl;exact rfl)|((with_reducible apply al_id);refine al_cel hp ?_;clear hp;intro bb w hp)|((with_reducible apply st_id);apply sta_hs hp;(focus repeat' constructor);exact rfl;exact rfl;clear hp;intro w hp;(try dsimp only [List.set] at hp))|((with_reducible apply gen_id);apply gen_build;exact rfl;exact rfl))<;>(conv=>whnf)))
 obtain ⟨b7,hb7⟩:∃b,b=bb:=⟨_,rfl⟩
 subst hb7
 obtain ⟨b6,hb6⟩:∃b,b=bb:=⟨_,rfl⟩
 subst hb6
 have hp0:Hp N0 w0 w [cel b6 92 #[ptr bw],star (wrRs bw room Sl.nil 0),cel b2 31 fC.toArray]:=hp.tail
 clear hp
 have hI0:WrI room [] (Sl.nil (α:=UInt8)) 0:=⟨Nat.le_refl _, .inl ⟨rfl,rfl,Nat.zero_le _⟩⟩
 refine lp_inv (α:=Nat×List UInt8×Sl UInt8×Int) (fun a=> [(2,ptr b2),(6,ptr b6),(26, .agg #[i64 1,i64 1,i64 1,i64 1,i64 1,i64 1]),(27,i64 a.1)]) (fun a w=>a.1≤6∧a.2.1.length=4*a.1∧WrI room a.2.1 a.2.2.1 a.2.2.2∧Hp N0 w0 w [cel b6 92 #[ptr bw],star (wrRs bw room a.2.2.1 a.2.2.2),cel b2 31 fC.toArray]) (fun a=>6 - a.1) (0, [],Sl.nil,0) (by (repeat' (first|exact trivial|(refine ⟨rfl,?_⟩)))) ⟨by omega,rfl,hI0,hp0⟩ ?_
 clear hp0 hI0
 rintro ⟨i,L,s,bad⟩ e0 w ⟨hi,hL,hI,hp⟩
 dsimp only at hi hL hI hp ⊢
 rcases Nat.lt_or_ge i 6 with hlt|hge
 ·have hy6:([1,1,1,1,1,1]:List Int)[i]? =some 1:=by
   rcases i with _|_|_|_|_|_|i
   ·rfl
   ·rfl
   ·rfl
   ·rfl
   ·rfl
   ·rfl
   ·omega
  have u6:=Tryz.underlying94
  ((conv=>whnf);repeat' ((first|((with_reducible apply br_id);(with_reducible refine br_dec (fun hx=>?_) (fun hx=>?_))<;>(try (exfalso;first|omega|contradiction)))|((with_reducible apply ar_id);refine ar_u32 (by omega) ?_)|((with_reducible apply ld_id);apply ld_hs hp;(focus repeat' constructor);exact rfl)|((with_reducible apply gen_id);first|((refine gen_arx (f:=fun z:Int=>i64 z) (l:= [1,1,1,1,1,1]) rfl u6 rfl rfl rfl (by omega) i (by omega) hy6 ?_))|((refine gen_bs rfl hp el_u4 u4L [(1:UInt32)] [u4 1] rfl rfl rfl (fun _ hh=>by simp at hh;subst hh;rfl) (by omega) ?_);clear hp;intro br w hp)))<;>(conv=>whnf)))
  refine cl_eq (nums_any (B:=w.heap.size) (x:=⟨some ⟨br,0,none⟩,1, [1]⟩) hI (hp.get (j:=2) rfl) (out_row hp (by simp)) (by simp) (by omega) hr2) rfl rfl ?_
  rintro e w ⟨s2,bad2,hI2,rfl,hm⟩
  replace hp:=hp.via (j:=2) rfl hm
  clear hm
  dsimp only [List.set] at hp
  refine ⟨_,rfl,?_⟩
  ((conv=>whnf);repeat' (((with_reducible apply ar_id);refine ar_i64 (by omega) ?_)<;>(conv=>whnf)))
  exact lp_next (i+1,L++numsB [1],s2,bad2) (by show 6 - (i+1) < 6 - i;omega) (by (repeat' (first|exact trivial|(refine ⟨rfl,?_⟩)))) ⟨by show i+1≤_;omega,by show (L++numsB [1]).length=4*(i+1);rw [List.length_append,hL];exact (Nat.mul_succ 4 i).symm,hI2,hp.tail⟩
 obtain rfl:i=6:=by omega
 clear hi hge
 ((conv=>whnf);repeat' ((first|((with_reducible apply br_id);(with_reducible refine br_dec (fun hx=>?_) (fun hx=>?_))<;>(try (exfalso;first|omega|contradiction)))|((with_reducible apply ld_id);apply ld_hs hp;(focus repeat' constructor);exact rfl)|((with_reducible apply gen_id);(refine gen_bs rfl hp el_u4 u4L [(0:UInt32)] [u4 0] rfl rfl rfl (fun _ hh=>by simp at hh;subst hh;rfl) (by omega) ?_);clear hp;intro br w hp))<;>(conv=>whnf)))
 have hz1:(numsB [0]).length=4:=rfl
 have hz2:∀k,k≤8→(numB 0 k).length=k:=fun k hk=>numB_len 0 k hk
 have hf:∀k,numFit 0 k=true:=fun k=>by unfold numFit;simp
 refine cl_eq (nums_any (B:=w.heap.size) (x:=⟨some ⟨br,0,none⟩,1, [0]⟩) hI (hp.get (j:=2) rfl) (out_row hp (by simp)) (by simp) (by omega) hr2) rfl rfl ?_
 rintro e w ⟨s1,bad1,hI1,rfl,hm⟩
 replace hp:=hp.via (j:=2) rfl hm
 clear hm
 dsimp only [List.set] at hp
 replace hp:=hp.tail
 refine ⟨_,rfl,?_⟩
 ((conv=>whnf);repeat' ((first|((with_reducible apply ar_id);refine ar_u64 (by omega) ?_)|((with_reducible apply ld_id);apply ld_hs hp;(focus repeat' constructor);exact rfl))<;>(conv=>whnf)))
 refine cl_eq (wnumI_any 0 1 (by omega) (hf 1) (by omega) hI1 (hp.get (j:=1) rfl) (by simp only [List.length_append,hz1];omega) hr2) rfl rfl ?_
 rintro e w ⟨s2,bad2,hI2,rfl,hm⟩
 replace hp:=hp.via (j:=1) rfl hm
 clear hm
 dsimp only [List.set] at hp
 refine ⟨_,rfl,?_⟩
 ((conv=>whnf);repeat' ((first|((with_reducible apply ld_id);apply ld_hs hp;(focus repeat' constructor);exact rfl)|((with_reducible apply gen_id);(refine gen_bs rfl hp el_u4 u4L [(0:UInt32)] [u4 0] rfl rfl rfl (fun _ hh=>by simp at hh;subst hh;rfl) (by omega) ?_);clear hp;intro br w hp))<;>(conv=>whnf)))
 refine cl_eq (nums_any (B:=w.heap.size) (x:=⟨some ⟨br,0,none⟩,1, [0]⟩) hI2 (hp.get (j:=2) rfl) (out_row hp (by simp)) (by simp) (by simp only [List.length_append,hz1,hz2 1 (by omega)];omega) hr2) rfl rfl ?_
 rintro e w ⟨s3,bad3,hI3,rfl,hm⟩
 replace hp:=hp.via (j:=2) rfl hm
 clear hm
 dsimp only [List.set] at hp
 replace hp:=hp.tail
 refine ⟨_,rfl,?_⟩
 ((conv=>whnf);repeat' ((first|((with_reducible apply ld_id);apply ld_hs hp;(focus repeat' constructor);exact rfl)|((with_reducible apply gen_id);(refine gen_mkf rfl rfl ?_)))<;>(conv=>whnf)))
 refine cl_eq (layW0_any (width:=1) (by omega) hI3 (hp.get (j:=1) rfl) (by simp only [List.length_append,hz1,hz2 1 (by omega),hz2 2 (by omega)];omega) hr2) rfl rfl ?_
 rintro e w ⟨s4,bad4,hI4,rfl,hm⟩
 replace hp:=hp.via (j:=1) rfl hm
 clear hm
 dsimp only [List.set] at hp
 refine ⟨_,rfl,?_⟩
 ((conv=>whnf);repeat' ((first|((with_reducible apply ld_id);apply ld_hs hp;(focus repeat' constructor);exact rfl)|((with_reducible apply gen_id);(refine gen_mkf rfl rfl ?_)))<;>(conv=>whnf)))
 refine cl_eq (layS0_any (width:=1) (by omega) hI4 (hp.get (j:=1) rfl) (by simp only [List.length_append,hz1,hz2 1 (by omega),hz2 2 (by omega)];omega) hr2) rfl rfl ?_
 rintro e w ⟨s5,bad5,hI5,rfl,hm⟩
 replace hp:=hp.via (j:=1) rfl hm
 clear hm
 dsimp only [List.set] at hp
 refine ⟨_,rfl,?_⟩
 ((conv=>whnf);repeat' ((first|((with_reducible apply ld_id);apply ld_hs hp;(focus repeat' constructor);exact rfl)|((with_reducible apply gen_id);(refine gen_mkf rfl rfl ?_)))<;>(conv=>whnf)))
 refine cl_eq (layB0_any (width:=2) (by omega) hI5 (hp.get (j:=1) rfl) (by simp only [List.length_append,hz1,hz2 1 (by omega),hz2 2 (by omega)];omega) hr2) rfl rfl ?_
 rintro e w ⟨s6,bad6,hI6,rfl,hm⟩
 replace hp:=hp.via (j:=1) rfl hm
 clear hm
 dsimp only [List.set] at hp
 refine ⟨_,rfl,?_⟩
 ((conv=>whnf);repeat' ((first|((with_reducible apply ld_id);apply ld_hs hp;(focus repeat' constructor);exact rfl)|((with_reducible apply gen_id);(refine gen_mkf rfl rfl ?_)))<;>(conv=>whnf)))
 refine cl_eq (layJ0_any (width:=2) (by omega) hI6 (hp.get (j:=1) rfl) (by simp only [List.length_append,hz1,hz2 1 (by omega),hz2 2 (by omega)];omega) hr2) rfl rfl ?_
 rintro e w ⟨s7,bad7,hI7,rfl,hm⟩
 replace hp:=hp.via (j:=1) rfl hm
 clear hm
 dsimp only [List.set] at hp
 refine ⟨_,rfl,?_⟩
 ((conv=>whnf);repeat' (((with_reducible apply ld_id);apply ld_hs hp;(focus repeat' constructor);exact rfl)<;>(conv=>whnf)))
 have hlen:(((((((L++numsB [0])++numB 0 1)++numsB [0])++numB 0 1)++numB 0 1)++numB 0 2)++numB 0 2).length=39:=by
  simp only [List.length_append,hz1,hz2 1 (by omega),hz2 2 (by omega),hL]
 obtain ⟨hd0,hs7⟩:bad7=0∧s7.l.length=39:=by
  rcases hI7.is with ⟨h1,h2,h3⟩|⟨h1,h2⟩
  ·exact ⟨h1,by rw [h2];exact hlen⟩
  ·rw [show _=39 from hlen] at h2
   omega
 subst hd0
 refine cl_eq (wdone_any (hp.get (j:=1) rfl) (by omega)) rfl rfl ?_
 rintro e w ⟨r,hr,rfl,hm⟩
 replace hp:=hp.add hm
 clear hm
 refine ⟨_,rfl,?_⟩
 ((conv=>whnf))
 exact ps_val (v':= .tuple #[r.v,i64 0]) rfl ⟨r,by rw [hr,if_pos rfl];exact hs7,rfl,hp.made1 (j:=0) rfl⟩
theorem right_first:rightS staF=true:=by decide
theorem sta_first {w:World}:StaAt w.heap.size w staF:=⟨.none_,fun _ h=>(by cases h), .none_,⟨.none_,fun _ h=>(by cases h)⟩, .none_,fun _ h=>(by cases h)⟩
theorem few_first:FewI staF:=⟨by decide,by decide,by decide,by decide,fun _ h=>(by cases h),fun _ h=>(by cases h),fun _ h=>(by cases h)⟩
theorem bright_first (w0:World):Calls Tryz.prog 17 #[.agg fC.toArray] w0 fun e w'=>e= .returned (.bool true)∧Chg N0 w0 w':=by
 have h:=bright_any (w0:=w0) sta_first (Nat.le_refl _) few_first (fun _ h=>(by cases h))
 rw [right_first] at h
 exact h
theorem enc_first (w0:World):Calls Tryz.prog 7 #[.agg fC.toArray] w0 fun e w'=>∃r:Sl UInt8,r.l.length=39∧e= .returned (.tuple #[r.v,i64 0])∧Made (rowR 5 1 u8L r) w0 w':=by
 have hp:=Hp.start (S:=N0) w0
 refine calls_x (args:= [_]) tabOk Tryz.func7 Tryz.ntmps7 Tryz.results7 rfl (Nat.le_of_ble_eq_true rfl) ?_
 ((conv=>whnf);repeat' ((first|((with_reducible apply br_id);first|with_reducible refine br_t ?_|with_reducible refine br_not ?_)|((with_reducible apply ldn_id);apply lda_hs hp;(focus repeat' constructor);exact rfl)|((with_reducible apply al_id);refine al_cel hp ?_;clear hp;intro bb w hp)|((with_reducible apply cl_id);(refine cl_eq ((bright_first _)) rfl rfl ?_;rintro e w ⟨rfl,hcc⟩;replace hp:=hp.call0 hcc;refine ⟨_,rfl,?_⟩)))<;>(conv=>whnf)))
 refine cl_eq (iwrite_first (room:=60000) (by omega)) rfl rfl ?_
 rintro e w ⟨r,hr,rfl,hm⟩
 replace hp:=hp.add hm
 clear hm
 refine ⟨_,rfl,?_⟩
 ((conv=>whnf);repeat' (((with_reducible apply br_id);(with_reducible refine br_ne (fun hx=>?_) (fun hx=>?_))<;>(try (exfalso;first|omega|contradiction)))<;>(conv=>whnf)))
 exact ps_val (v':= .tuple #[r.v,i64 0]) rfl ⟨r,hr,rfl,hp.made1 (j:=0) rfl⟩
theorem bytes_first (w0:World):Calls Tryz.prog 9 #[.agg fC.toArray] w0 fun e w'=>e= .returned (i64 39)∧Chg N0 w0 w':=by
 have hp:=Hp.start (S:=N0) w0
 have u1:=Tryz.underlying34
 refine calls_x (args:= [_]) tabOk Tryz.func9 Tryz.ntmps9 Tryz.results9 rfl (Nat.le_of_ble_eq_true rfl) ?_
 ((conv=>whnf);repeat' ((first|((with_reducible apply br_id);first|with_reducible refine br_t ?_|with_reducible refine br_not ?_)|((with_reducible apply ldn_id);apply lda_hs hp;(focus repeat' constructor);exact rfl)|((with_reducible apply al_id);refine al_cel hp ?_;clear hp;intro bb w hp)|((with_reducible apply cl_id);(refine cl_eq ((bright_first _)) rfl rfl ?_;rintro e w ⟨rfl,hcc⟩;replace hp:=hp.call0 hcc;refine ⟨_,rfl,?_⟩)))<;>(conv=>whnf)))
 refine cl_eq (iwrite_first (room:=1073741824) (by omega)) rfl rfl ?_
 rintro e w ⟨r,hr,rfl,hm⟩
 replace hp:=hp.add hm
 clear hm
 refine ⟨_,rfl,?_⟩
 ((conv=>whnf);repeat' (((with_reducible apply gen_id);apply gen_len;exact rfl;exact rfl;assumption)<;>(conv=>whnf)))
 exact ps_val (v':=i64 r.l.length) rfl ⟨by rw [hr];rfl,hp.chg⟩
theorem first32_any (w0:World):Calls Tryz.prog 16 #[] w0 fun e w'=>e= .returned (.agg fC.toArray)∧Chg N0 w0 w':=by
 have hp:=Hp.start (S:=N0) w0
 refine calls_x (args:= []) tabOk Tryz.func16 Tryz.ntmps16 Tryz.results16 rfl (Nat.le_of_ble_eq_true rfl) ?_
 ((conv=>whnf);repeat' ((first|((with_reducible apply cn_id);refine cn rfl ?_)|((with_reducible apply ldn_id);apply lda_hs hp;(focus repeat' constructor);exact rfl)|((with_reducible apply al_id);refine al_cel hp ?_;clear hp;intro bb w hp)|((with_reducible apply st_id);apply sta_hs hp;(focus repeat' constructor);exact rfl;exact rfl;clear hp;intro w hp;(try dsimp only [List.set] at hp))|((with_reducible apply gen_id);first|(refine gen_build (t:=31) (out:=fC) rfl (by kernel_rfl) ?_)|(apply gen_build;exact rfl;exact rfl)))<;>(conv=>whnf)))
 exact ps_val (v':= .agg fC.toArray) rfl ⟨rfl,hp.chg⟩
theorem alive32_any (w0:World):Calls Tryz.prog 6 #[] w0 fun e w'=>e= .returned (.bool true)∧Chg N0 w0 w':=by
 have hp:=Hp.start (S:=N0) w0
 have u1:=Tryz.underlying34
 refine calls_x (args:= []) tabOk Tryz.func6 Tryz.ntmps6 Tryz.results6 rfl (Nat.le_of_ble_eq_true rfl) ?_
 ((conv=>whnf);repeat' (((with_reducible apply cl_id);(refine cl_eq ((first32_any _)) rfl rfl ?_;rintro e w ⟨rfl,hcc⟩;replace hp:=hp.call0 hcc;refine ⟨_,rfl,?_⟩))<;>(conv=>whnf)))
 refine cl_eq (enc_first _) rfl rfl ?_
 rintro e w ⟨r,hr,rfl,hm⟩
 replace hp:=hp.add hm
 clear hm
 refine ⟨_,rfl,?_⟩
 ((conv=>whnf);repeat' ((first|((with_reducible apply br_id);first|with_reducible refine br_t ?_|((with_reducible refine br_eq (fun hx=>?_) (fun hx=>?_))<;>(try (exfalso;first|omega|contradiction))))|((with_reducible apply gen_id);apply gen_len;exact rfl;exact rfl;assumption)|((with_reducible apply cl_id);first|((refine cl_eq ((first32_any _)) rfl rfl ?_;rintro e w ⟨rfl,hcc⟩;replace hp:=hp.call0 hcc;refine ⟨_,rfl,?_⟩))|((refine cl_eq ((bytes_first _)) rfl rfl ?_;rintro e w ⟨rfl,hcc⟩;replace hp:=hp.call0 hcc;refine ⟨_,rfl,?_⟩))))<;>(conv=>whnf)))
 all_goals first
  |exact ps_val (v':= .bool true) rfl ⟨rfl,hp.chg⟩
  |omega
set_option maxHeartbeats 2000000
theorem p_ne {p q:List Blob} {i:Nat} {x y:Blob} (hx:p[i]? =some x) (hy:q[i]? =some y) (h:x.p≠y.p):decide (p.map (·.p)=q.map (·.p))=false:=by
 rw [decide_eq_false_iff_not]
 intro hh
 have:=congrArg (·[i]?) hh
 simp [hx,hy] at this
 exact h this
theorem rsame25_any {B:Nat} {w0:World} {p q:Sl Blob} (h:BlobsAt B w0 p) (k:BlobsAt B w0 q):Calls Tryz.prog 25 #[p.v,q.v] w0 fun e w'=>e= .returned (.bool (decide (p.l.map (·.p)=q.l.map (·.p))))∧Chg N0 w0 w':=by
 have hp:=Hp.start (S:=N0) w0
 have hB:∀b,N0 b→B≤b:=fun _ hh=>hh.elim
 have us:=Tryz.underlying28
 have u2:=Tryz.underlying34
 have hmax:p.l.length≤9223372036854775807:=by have:=h.row.le;have:=h.row.max;simp only [maxLen] at this;omega
 have hmaq:q.l.length≤9223372036854775807:=by have:=k.row.le;have:=k.row.max;simp only [maxLen] at this;omega
 refine calls_x (args:= [_,_]) tabOk Tryz.func25 Tryz.ntmps25 Tryz.results25 rfl (Nat.le_of_ble_eq_true rfl) ?_
 ((conv=>whnf);repeat' ((first|((with_reducible apply br_id);(with_reducible refine br_ne (fun hx=>?_) (fun hx=>?_))<;>(try (exfalso;first|omega|contradiction)))|((with_reducible apply gen_id);apply gen_len;exact rfl;exact rfl;assumption))<;>(conv=>whnf)))
 ·exact ps_val (v':= .bool false) rfl ⟨by rw [decide_eq_false fun e=>by have e:=congrArg List.length e;rw [List.length_map,List.length_map] at e;omega],hp.chg⟩
 have hpq:p.l.length=q.l.length:=by omega
 refine lp_inv (α:=Nat) (fun i=> [(0,p.v),(1,q.v),(5,i64 i)]) (fun i w=>i≤p.l.length∧(p.l.take i).map (·.p)=(q.l.take i).map (·.p)∧Hp N0 w0 w []) (fun i=>p.l.length - i) 0 (by (repeat' (first|exact trivial|(refine ⟨rfl,?_⟩)))) ⟨by omega,by simp,hp⟩ ?_
 clear hp
 rintro i e0 w ⟨hi,hall,hp⟩
 dsimp only at hi hall hp ⊢
 rcases Nat.lt_or_ge i p.l.length with hlt|hge
 ·obtain ⟨b,o,x,hA,hb,hrow,hxx⟩:=h.row.has hlt
  obtain ⟨b',o',y,hA',hb',hrow',hyy⟩:=k.row.has (show i < q.l.length by omega)
  have hiq:(i:Int) < q.l.length:=by omega
  have hmx:=h.data x (List.mem_of_getElem? hxx)
  have hmy:=k.data y (List.mem_of_getElem? hyy)
  have hx2:((Blob.c x).drop 2).take 16=Hint.c x.hint:=rfl
  have hy2:((Blob.c y).drop 2).take 16=Hint.c y.hint:=rfl
  have hx18:(Blob.c x)[18]? =some (Sl.v x.data):=rfl
  have hy18:(Blob.c y)[18]? =some (Sl.v y.data):=rfl
  by_cases h1:x.key.ses=y.key.ses∧x.key.seq=y.key.seq
  ·obtain ⟨h1,h2⟩:=h1
   have e1:(x.key.ses.toNat:Int)=y.key.ses.toNat:=by rw [h1]
   have e2:(x.key.seq.toNat:Int)=y.key.seq.toNat:=by rw [h2]
   by_cases h3:x.hint=y.hint
   ·have hq:EqIs Tryz.prog 44 x.hint.v y.hint.v true:=by have:=eq_hint x.hint y.hint;rwa [decide_eq_true h3] at this
    have hbn:(if BinOp.neq=BinOp.eql then true else !true)=false:=rfl
    by_cases h4:x.data.l=y.data.l
    ·have hbs:(if BinOp.neq=BinOp.eql then decide (x.data.l=y.data.l) else !decide (x.data.l=y.data.l))=false:=by rw [decide_eq_true h4];rfl
     ((conv=>whnf);repeat' ((first|((with_reducible apply br_id);first|(with_reducible refine br_0 hbn ?_)|(with_reducible refine br_0 hbs ?_)|with_reducible refine br_f ?_|((with_reducible refine br_dec (fun hx=>?_) (fun hx=>?_))<;>(try (exfalso;first|omega|contradiction)))|((with_reducible refine br_ne (fun hx=>?_) (fun hx=>?_))<;>(try (exfalso;first|omega|contradiction))))|((with_reducible apply ar_id);refine ar_i64 (by omega) ?_)|((with_reducible apply ld_id);(refine ld_row hp hB ‹_› ‹_› _ _ rfl ‹_› (by rfl) ?_))|((with_reducible apply ldn_id);(refine ldn_row hp hB ‹_› ‹_› _ _ rfl ‹_› (by rfl) (by rfl) ?_))|((with_reducible apply gen_id);apply gen_len;exact rfl;exact rfl;assumption)|((with_reducible apply dr_id);refine dr_auto tabOk (by kernel_rfl) (by decide+kernel) ?_;(try replace hp:=hp.drew))|((with_reducible apply rd_id);first|(refine rd_ixs rfl rfl ‹_› rfl rfl (by omega) ?_)|(refine rd_b2s rfl (hmx.keep hp.chg hB) u2 Tryz.underlying5 Tryz.underlying9 rfl ?_)|(refine rd_b2s rfl (hmy.keep hp.chg hB) u2 Tryz.underlying5 Tryz.underlying9 rfl ?_)|(refine rd_streq rfl (a:=x.data.l) (b:=y.data.l) rfl rfl (.inr rfl) ?_)|(refine rd_eqa rfl rfl rfl hq (by kernel_rfl) (.inr rfl) ?_)))<;>(conv=>whnf)))
     have hxy:x.p=y.p:=by
      obtain ⟨⟨a1,a2⟩,a3,a4⟩:=x
      obtain ⟨⟨c1,c2⟩,c3,c4⟩:=y
      show BlP.mk _ _ _=BlP.mk _ _ _
      rw [show a1=c1 from h1,show a2=c2 from h2,show a3=c3 from h3,show a4.l=c4.l from h4]
     all_goals first
      |exact absurd e1 hx
      |exact absurd e2 hx
      |exact lp_next (i+1) (by show p.l.length - (i+1) < p.l.length - i;omega) (by (repeat' (first|exact trivial|(refine ⟨rfl,?_⟩)))) ⟨by show i+1≤_;omega,by show (p.l.take (i+1)).map _=(q.l.take (i+1)).map _;rw [List.take_add_one,List.take_add_one,hxx,hyy,List.map_append,List.map_append,hall];simp [hxy],hp⟩
    ·have hbs:(if BinOp.neq=BinOp.eql then decide (x.data.l=y.data.l) else !decide (x.data.l=y.data.l))=true:=by rw [decide_eq_false h4];rfl
     ((conv=>whnf);repeat' ((first|((with_reducible apply br_id);first|(with_reducible refine br_0 hbn ?_)|(with_reducible refine br_1 hbs ?_)|with_reducible refine br_f ?_|((with_reducible refine br_dec (fun hx=>?_) (fun hx=>?_))<;>(try (exfalso;first|omega|contradiction)))|((with_reducible refine br_ne (fun hx=>?_) (fun hx=>?_))<;>(try (exfalso;first|omega|contradiction))))|((with_reducible apply ld_id);(refine ld_row hp hB ‹_› ‹_› _ _ rfl ‹_› (by rfl) ?_))|((with_reducible apply ldn_id);(refine ldn_row hp hB ‹_› ‹_› _ _ rfl ‹_› (by rfl) (by rfl) ?_))|((with_reducible apply gen_id);apply gen_len;exact rfl;exact rfl;assumption)|((with_reducible apply dr_id);refine dr_auto tabOk (by kernel_rfl) (by decide+kernel) ?_;(try replace hp:=hp.drew))|((with_reducible apply rd_id);first|(refine rd_ixs rfl rfl ‹_› rfl rfl (by omega) ?_)|(refine rd_b2s rfl (hmx.keep hp.chg hB) u2 Tryz.underlying5 Tryz.underlying9 rfl ?_)|(refine rd_b2s rfl (hmy.keep hp.chg hB) u2 Tryz.underlying5 Tryz.underlying9 rfl ?_)|(refine rd_streq rfl (a:=x.data.l) (b:=y.data.l) rfl rfl (.inr rfl) ?_)|(refine rd_eqa rfl rfl rfl hq (by kernel_rfl) (.inr rfl) ?_)))<;>(conv=>whnf)))
     all_goals first
      |exact absurd e1 hx
      |exact absurd e2 hx
      |exact ps_val (v':= .bool false) rfl ⟨by rw [p_ne hxx hyy fun e=>h4 (congrArg BlP.bytes e)],hp.chg⟩
   ·have hq:EqIs Tryz.prog 44 x.hint.v y.hint.v false:=by have:=eq_hint x.hint y.hint;rwa [decide_eq_false h3] at this
    have hbn:(if BinOp.neq=BinOp.eql then false else !false)=true:=rfl
    ((conv=>whnf);repeat' ((first|((with_reducible apply br_id);first|(with_reducible refine br_1 hbn ?_)|with_reducible refine br_t ?_|with_reducible refine br_f ?_|((with_reducible refine br_dec (fun hx=>?_) (fun hx=>?_))<;>(try (exfalso;first|omega|contradiction)))|((with_reducible refine br_ne (fun hx=>?_) (fun hx=>?_))<;>(try (exfalso;first|omega|contradiction))))|((with_reducible apply ld_id);(refine ld_row hp hB ‹_› ‹_› _ _ rfl ‹_› (by rfl) ?_))|((with_reducible apply ldn_id);(refine ldn_row hp hB ‹_› ‹_› _ _ rfl ‹_› (by rfl) (by rfl) ?_))|((with_reducible apply gen_id);apply gen_len;exact rfl;exact rfl;assumption)|((with_reducible apply dr_id);refine dr_auto tabOk (by kernel_rfl) (by decide+kernel) ?_;(try replace hp:=hp.drew))|((with_reducible apply rd_id);first|(refine rd_ixs rfl rfl ‹_› rfl rfl (by omega) ?_)|(refine rd_eqa rfl rfl rfl hq (by kernel_rfl) (.inr rfl) ?_)))<;>(conv=>whnf)))
    all_goals first
     |exact absurd e1 hx
     |exact absurd e2 hx
     |exact ps_val (v':= .bool false) rfl ⟨by rw [p_ne hxx hyy fun e=>h3 (congrArg BlP.hint e)],hp.chg⟩
  ·have hne:x.p≠y.p:=fun e=>h1 (by have h2:x.key=y.key:=congrArg BlP.key e;rw [h2];exact ⟨rfl,rfl⟩)
   have hne2:¬((x.key.ses.toNat:Int)=y.key.ses.toNat∧(x.key.seq.toNat:Int)=y.key.seq.toNat):=fun ⟨a,b⟩=>h1 ⟨UInt32.toNat_inj.1 (Int.ofNat.inj a),UInt32.toNat_inj.1 (Int.ofNat.inj b)⟩
   ((conv=>whnf);repeat' ((first|((with_reducible apply br_id);first|with_reducible refine br_t ?_|with_reducible refine br_f ?_|((with_reducible refine br_dec (fun hx=>?_) (fun hx=>?_))<;>(try (exfalso;first|omega|contradiction)))|((with_reducible refine br_ne (fun hx=>?_) (fun hx=>?_))<;>(try (exfalso;first|omega|contradiction))))|((with_reducible apply ld_id);(refine ld_row hp hB ‹_› ‹_› _ _ rfl ‹_› (by rfl) ?_))|((with_reducible apply gen_id);apply gen_len;exact rfl;exact rfl;assumption)|((with_reducible apply dr_id);refine dr_auto tabOk (by kernel_rfl) (by decide+kernel) ?_;(try replace hp:=hp.drew))|((with_reducible apply rd_id);(refine rd_ixs rfl rfl ‹_› rfl rfl (by omega) ?_)))<;>(conv=>whnf)))
   all_goals exact ps_val (v':= .bool false) rfl ⟨by rw [p_ne hxx hyy hne],hp.chg⟩
 ·rw [List.take_of_length_le hge,List.take_of_length_le (by omega)] at hall
  ((conv=>whnf);repeat' ((first|((with_reducible apply br_id);(with_reducible refine br_dec (fun hx=>?_) (fun hx=>?_))<;>(try (exfalso;first|omega|contradiction)))|((with_reducible apply gen_id);apply gen_len;exact rfl;exact rfl;assumption))<;>(conv=>whnf)))
  exact ps_val (v':= .bool true) rfl ⟨by rw [decide_eq_true hall],hp.chg⟩
end Go.Proofs.YtpbapnlnheahnaaGreatDoor
