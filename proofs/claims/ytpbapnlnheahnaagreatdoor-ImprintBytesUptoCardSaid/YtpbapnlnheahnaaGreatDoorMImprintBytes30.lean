/- MImprintBytes30: parts of the proof of ImprintBytes: Imp4, Imp5, Imp6. No condition of their own. -/
import Derived.Test.YtpbapnlnheahnaaGreatDoorMImprintBytes29
import Derived.Test.YtpbapnlnheahnaaGreatDoorMImprintBytes21
set_option linter.unusedSimpArgs false
set_option linter.unusedVariables false
namespace Go.Proofs.YtpbapnlnheahnaaGreatDoor
open Go.RowKit
set_option maxRecDepth 100000
set_option maxHeartbeats 4000000
section
variable {w0 : World} {b room : Nat} {s : Sl UInt8} {bad : Int} {L : List UInt8}
theorem widI_any (x:Id) (hI:WrI room L s bad) (h:(star (wrRs b room s bad)).ok w0) (hL:L.length≤1000000) (hr:room≤2000000000):
  Calls Tryz.prog 55 #[ptr b,x.v] w0 fun e w'=>∃(s':Sl UInt8) (bad':Int),WrI room (L++x.toList) s' bad'∧e= .returned (.tuple #[])∧Mut (star (wrRs b room s bad)) (star (wrRs b room s' bad')) w0 w':=by
 have h1:=hI.le
 refine Calls.mono (wid_any h x (by omega) hr) ?_
 rintro e w ⟨s',hs',rfl,hm⟩
 exact ⟨s',_,hI.put _ hs',rfl,hm⟩
theorem whintI_any (x:Hint) (hI:WrI room L s bad) (h:(star (wrRs b room s bad)).ok w0) (hL:L.length≤1000000) (hr:room≤2000000000):
  Calls Tryz.prog 52 #[ptr b,x.v] w0 fun e w'=>∃(s':Sl UInt8) (bad':Int),WrI room (L++x.toList) s' bad'∧e= .returned (.tuple #[])∧Mut (star (wrRs b room s bad)) (star (wrRs b room s' bad')) w0 w':=by
 have h1:=hI.le
 refine Calls.mono (whint_any h x (by omega) hr) ?_
 rintro e w ⟨s',hs',rfl,hm⟩
 exact ⟨s',_,hI.put _ hs',rfl,hm⟩
theorem wbytesI_any {B:Nat} {x:Sl UInt8} (hx:SlOut (star (wrRs b room s bad)).dom B w0 u8L 1 x) (hBw:B≤w0.heap.size) (hn:x.l.length≤1000000) (hI:WrI room L s bad) (h:(star (wrRs b room s bad)).ok w0) (hL:L.length≤1000000) (hr:room≤2000000000):
  Calls Tryz.prog 112 #[ptr b,x.v] w0 fun e w'=>∃(s':Sl UInt8) (bad':Int),WrI room (L++x.l) s' bad'∧e= .returned (.tuple #[])∧Mut (star (wrRs b room s bad)) (star (wrRs b room s' bad')) w0 w':=by
 have h1:=hI.le
 refine Calls.mono (wbytes_any h hx hBw hn (by omega) hr) ?_
 rintro e w ⟨s',hs',rfl,hm⟩
 exact ⟨s',_,hI.put _ hs',rfl,hm⟩
theorem wfail0_any (h:(star (wrRs b room s bad)).ok w0):Calls Tryz.prog 111 #[ptr b,i64 0] w0 fun e w'=>e= .returned (.tuple #[])∧Mut (star (wrRs b room s bad)) (star (wrRs b room s bad)) w0 w':=by
 have hp:=Hp.open h
 by_cases hb:bad=0
 ·subst hb
  refine calls_x (args:= [_,_]) tabOk Tryz.func111 Tryz.ntmps111 Tryz.results111 rfl (Nat.le_of_ble_eq_true rfl) ?_
  ((conv=>whnf);repeat' ((first|((with_reducible apply br_id);first|with_reducible refine br_t ?_|with_reducible refine br_f ?_|with_reducible refine br_not ?_|((with_reducible refine br_eq (fun hx=>?_) (fun hx=>?_))<;>(try (exfalso;first|omega|contradiction))))|((with_reducible apply cn_id);refine cn rfl ?_)|((with_reducible apply ld_id);apply ld_hs hp;(focus repeat' constructor);exact rfl)|((with_reducible apply st_id);apply st_hs hp;(focus repeat' constructor);exact rfl;exact rfl;clear hp;intro w hp;(try dsimp only [List.set] at hp))|((with_reducible apply cl_id);(refine cl_eq (wnone_any (cel_ok.1 (hp.get (j:=0) rfl))) rfl rfl ?_;rintro e w ⟨rfl,hcc⟩;replace hp:=hp.call0 hcc;refine ⟨_,rfl,?_⟩)))<;>(conv=>whnf)))
  all_goals exact ps_val (v':= .tuple #[]) rfl ⟨rfl,hp.shut (.refl _)⟩
 ·refine calls_x (args:= [_,_]) tabOk Tryz.func111 Tryz.ntmps111 Tryz.results111 rfl (Nat.le_of_ble_eq_true rfl) ?_
  ((conv=>whnf);repeat' ((first|((with_reducible apply br_id);first|with_reducible refine br_t ?_|with_reducible refine br_f ?_|with_reducible refine br_not ?_|((with_reducible refine br_eq (fun hx=>?_) (fun hx=>?_))<;>(try (exfalso;first|omega|contradiction))))|((with_reducible apply ld_id);apply ld_hs hp;(focus repeat' constructor);exact rfl)|((with_reducible apply cl_id);(refine cl_eq (wnone_any (cel_ok.1 (hp.get (j:=0) rfl))) rfl rfl ?_;rintro e w ⟨rfl,hcc⟩;replace hp:=hp.call0 hcc;refine ⟨_,rfl,?_⟩)))<;>(conv=>whnf)))
  all_goals first
   |(exfalso;omega)
   |exact ps_val (v':= .tuple #[]) rfl ⟨rfl,hp.shut (.refl _)⟩
theorem numFit2 {n:Nat} (h:n < 65536):numFit n 2=true:=by
 unfold numFit
 rw [show decide (n / 2 ^ (8*2)=0)=true from decide_eq_true (Nat.div_eq_of_lt (by simpa using h)),Bool.or_true]
def pckB (x:List UInt8):List UInt8:=numB x.length 2++x
theorem packed_any {B:Nat} {x:Sl UInt8} (hx:SlOut (star (wrRs b room s bad)).dom B w0 u8L 1 x) (hBw:B≤w0.heap.size) (hn:x.l.length < 65536) (hI:WrI room L s bad) (h:(star (wrRs b room s bad)).ok w0) (hL:L.length≤900000) (hr:room≤2000000000):
  Calls Tryz.prog 47 #[ptr b,x.v,i64 0] w0 fun e w'=>∃(s':Sl UInt8) (bad':Int),WrI room (L++pckB x.l) s' bad'∧e= .returned (.tuple #[])∧Mut (star (wrRs b room s bad)) (star (wrRs b room s' bad')) w0 w':=by
 have hp:=Hp.start1 h
 have u1:=Tryz.underlying34
 have h2:(numB x.l.length 2).length=2:=numB_len _ _ (by omega)
 refine calls_x (args:= [_,_,_]) tabOk Tryz.func47 Tryz.ntmps47 Tryz.results47 rfl (Nat.le_of_ble_eq_true rfl) ?_
 ((conv=>whnf))
 refine cl_eq (wfail0_any (hp.get (j:=0) rfl)) rfl rfl ?_
 rintro e w ⟨rfl,hm⟩
 replace hp:=hp.via (j:=0) rfl hm
 clear hm
 dsimp only [List.set] at hp
 refine ⟨_,rfl,?_⟩
 ((conv=>whnf);repeat' ((first|((with_reducible apply ar_id);refine ar_u64 (by omega) ?_)|((with_reducible apply gen_id);apply gen_len;exact rfl;exact rfl;assumption))<;>(conv=>whnf)))
 refine cl_eq (wnumI_any x.l.length 2 (by omega) (numFit2 hn) (by omega) hI (hp.get (j:=0) rfl) (by omega) hr) rfl rfl ?_
 rintro e w ⟨s1,bad1,hI1,rfl,hm⟩
 replace hp:=hp.via (j:=0) rfl hm
 have hd:=hm.dom
 clear hm
 dsimp only [List.set] at hp
 refine ⟨_,rfl,?_⟩
 ((conv=>whnf))
 have hx1:SlOut (star (wrRs b room s1 bad1)).dom w.heap.size w u8L 1 x:=⟨(hx.keep hp.chg).more (Nat.le_trans hBw hp.chg.size),fun hne c o hA hd=>by
  rcases hp.own _ (List.mem_cons_self ..) c hd with g|g
  ·exact hx.out hne c o hA g
  ·obtain ⟨b',o',g1,g2,_⟩:=hx.at_.row hne
   rw [hA] at g1
   cases g1
   omega⟩
 refine cl_eq (wbytesI_any hx1 (Nat.le_refl _) (by omega) hI1 (hp.get (j:=0) rfl) (by rw [List.length_append];omega) hr) rfl rfl ?_
 rintro e w ⟨s2,bad2,hI2,rfl,hm⟩
 replace hp:=hp.via (j:=0) rfl hm
 clear hm
 dsimp only [List.set] at hp
 refine ⟨_,rfl,?_⟩
 ((conv=>whnf))
 rw [List.append_assoc] at hI2
 exact ps_val (v':= .tuple #[]) rfl ⟨s2,bad2,hI2,rfl,hp.shut1 (j:=0) rfl⟩
end
theorem slout_of {α:Type} {S:Nat→Prop} {B:Nat} {w:World} {enc:α→List Value} {sz:Nat} {x:Sl α} (h:SlAt B w enc sz x) (hS:∀k,S k→B≤k):SlOut S B w enc sz x:=⟨h,fun hne c o hA hd=>by
 obtain ⟨b',o',g1,g2,_⟩:=h.row hne
 rw [hA] at g1
 cases g1
 have:=hS c hd
 omega⟩
structure WrX (B pw b room:Nat) (s:Sl UInt8) (bad:Int) (w:World):Prop where
 ok:(star (wrRs b room s bad)).ok w
 cell:w.cell? ⟨pw,0,none⟩=some (ptr b)
 out:¬(star (wrRs b room s bad)).dom pw
 lt:pw < w.heap.size
 dom:∀k,(star (wrRs b room s bad)).dom k→B≤k
 le:B≤w.heap.size
theorem WrX.via {B pw b room:Nat} {s s':Sl UInt8} {bad bad':Int} {w0 w:World} {rs:List Res} (h:WrX B pw b room s bad w0) (hp:Hp (star (wrRs b room s bad)).dom w0 w rs) (hr:star (wrRs b room s' bad')∈rs):WrX B pw b room s' bad' w where
 ok:=hp.ok _ hr
 cell:=hp.chg.cell h.cell h.out
 out hd:=by
  rcases hp.own _ hr pw hd with g|g
  ·exact h.out g
  ·have:=h.lt
   omega
 lt:=Nat.lt_of_lt_of_le h.lt hp.chg.size
 dom k hd:=by
  rcases hp.own _ hr k hd with g|g
  ·exact h.dom k g
  ·exact Nat.le_trans h.le g
 le:=Nat.le_trans h.le hp.chg.size
def WPost (room b:Nat) (s:Sl UInt8) (bad:Int) (L:List UInt8) (w0:World) (e:Ending) (w':World):Prop:=∃(s':Sl UInt8) (bad':Int),WrI room L s' bad'∧e= .returned (.tuple #[])∧Mut (star (wrRs b room s bad)) (star (wrRs b room s' bad')) w0 w'
section
variable {B pw b room : Nat} {s : Sl UInt8} {bad : Int} {w0 : World} {L : List UInt8}
theorem nums_len (l:List UInt32):(numsB l).length=4*l.length:=by
 induction l with
 |nil=>rfl
 |cons z l ih=>
  unfold numsB at ih ⊢
  rw [List.flatMap_cons,List.length_append,ih,numB_len _ _ (by omega),List.length_cons]
  omega
def sesB (x:Sess):List UInt8:=numsB [x.id,x.quota,x.used,x.exp]
theorem wc2_any (x:Sess) (h:WrX B pw b room s bad w0) (hI:WrI room L s bad) (hL:L.length≤800000) (hr:room≤2000000000):Calls Tryz.prog 49 #[x.v,ptr pw] w0 (WPost room b s bad (L++sesB x) w0):=by
 have hp:=Hp.start1 h.ok
 refine calls_x (args:= [_,_]) tabOk Tryz.func49 Tryz.ntmps49 Tryz.results49 rfl (Nat.le_of_ble_eq_true rfl) ?_
 ((conv=>whnf);repeat' ((first|((with_reducible apply ld_id);first|(refine ld_of (hp.chg.cell h.cell h.out) ?_)|(apply ld_hs hp;(focus repeat' constructor);exact rfl))|((with_reducible apply al_id);refine al_cel hp ?_;clear hp;intro bb w hp)|((with_reducible apply gen_id);(refine gen_bs rfl hp el_u4 u4L (([x.id,x.quota,x.used,x.exp]:List UInt32)) ((([x.id,x.quota,x.used,x.exp]:List UInt32)).map u4) rfl rfl rfl (fun _ hh=>rfl) (by omega) ?_);clear hp;intro br w hp))<;>(conv=>whnf)))
 refine cl_eq (nums_any (B:=w.heap.size) (x:=⟨some ⟨br,0,none⟩,4, [x.id,x.quota,x.used,x.exp]⟩) hI (hp.get (j:=2) rfl) (out_row hp (by simp)) (by show 4≤100;omega) (by omega) hr) rfl rfl ?_
 rintro e w ⟨s1,bad1,hI1,rfl,hm⟩
 replace hp:=hp.via (j:=2) rfl hm
 clear hm
 dsimp only [List.set] at hp
 refine ⟨_,rfl,?_⟩
 ((conv=>whnf))
 exact ps_val (v':= .tuple #[]) rfl ⟨s1,bad1,hI1,rfl,hp.shut1 (j:=2) rfl⟩
def blobB (x:Blob):List UInt8:=numsB [x.key.ses,x.key.seq]++x.hint.toList++pckB x.data.l
theorem wc3_any (x:Blob) (hx:SlAt B w0 u8L 1 x.data) (hxl:x.data.l.length < 65536) (h:WrX B pw b room s bad w0) (hI:WrI room L s bad) (hL:L.length≤800000) (hr:room≤2000000000):Calls Tryz.prog 51 #[x.v,ptr pw] w0 (WPost room b s bad (L++blobB x) w0):=by
 have hp:=Hp.start1 h.ok
 have hn:(numsB [x.key.ses,x.key.seq]).length=8:=nums_len _
 have hh:x.hint.toList.length=16:=by simp
 refine calls_x (args:= [_,_]) tabOk Tryz.func51 Tryz.ntmps51 Tryz.results51 rfl (Nat.le_of_ble_eq_true rfl) ?_
 ((conv=>whnf);repeat' ((first|((with_reducible apply ld_id);first|(refine ld_of (hp.chg.cell h.cell h.out) ?_)|(apply ld_hs hp;(focus repeat' constructor);exact rfl))|((with_reducible apply al_id);refine al_cel hp ?_;clear hp;intro bb w hp)|((with_reducible apply gen_id);(refine gen_bs rfl hp el_u4 u4L (([x.key.ses,x.key.seq]:List UInt32)) ((([x.key.ses,x.key.seq]:List UInt32)).map u4) rfl rfl rfl (fun _ hh=>rfl) (by omega) ?_);clear hp;intro br w hp))<;>(conv=>whnf)))
 refine cl_eq (nums_any (B:=w.heap.size) (x:=⟨some ⟨br,0,none⟩,2, [x.key.ses,x.key.seq]⟩) hI (hp.get (j:=2) rfl) (out_row hp (by simp)) (by show 2≤100;omega) (by omega) hr) rfl rfl ?_
 rintro e w ⟨s1,bad1,hI1,rfl,hm⟩
 replace hp:=hp.via (j:=2) rfl hm
 clear hm
 dsimp only [List.set] at hp
 refine ⟨_,rfl,?_⟩
 ((conv=>whnf);repeat' ((first|((with_reducible apply ld_id);(refine ld_of (hp.chg.cell h.cell h.out) ?_))|((with_reducible apply ldn_id);apply ldn_hs hp;(focus repeat' constructor);exact rfl;exact rfl))<;>(conv=>whnf)))
 refine cl_eq (whintI_any x.hint hI1 (hp.get (j:=2) rfl) (by simp only [List.length_append];omega) hr) rfl rfl ?_
 rintro e w ⟨s2,bad2,hI2,rfl,hm⟩
 replace hp:=hp.via (j:=2) rfl hm
 clear hm
 dsimp only [List.set] at hp
 refine ⟨_,rfl,?_⟩
 ((conv=>whnf);repeat' (((with_reducible apply ld_id);first|(refine ld_of (hp.chg.cell h.cell h.out) ?_)|(apply ld_hs hp;(focus repeat' constructor);exact rfl))<;>(conv=>whnf)))
 have hv:=h.via (s':=s2) (bad':=bad2) hp (by simp)
 refine cl_eq (packed_any (slout_of (hx.keep hp.chg h.dom) hv.dom) (Nat.le_trans h.le hp.chg.size) hxl hI2 (hp.get (j:=2) rfl) (by simp only [List.length_append];omega) hr) rfl rfl ?_
 rintro e w ⟨s3,bad3,hI3,rfl,hm⟩
 replace hp:=hp.via (j:=2) rfl hm
 clear hm
 dsimp only [List.set] at hp
 refine ⟨_,rfl,?_⟩
 ((conv=>whnf))
 refine ps_val (v':= .tuple #[]) rfl ⟨s3,bad3,?_,rfl,hp.shut1 (j:=2) rfl⟩
 unfold blobB
 rw [←List.append_assoc,←List.append_assoc]
 exact hI3
def winB (x:Blk):List UInt8:=pckB (blkB x.hash x.parent x.tx.l)
theorem blkB_len (h p:Id) (t:List Id):(blkB h p t).length=65+32*t.length:=by
 unfold blkB
 rw [List.length_append,List.length_append,List.length_append,ids_len,numB_len _ _ (by omega)]
 simp
theorem wc1_any (x:Blk) (hx:SlAt B w0 Id.c 32 x.tx) (hxr:rightB x=true) (h:WrX B pw b room s bad w0) (hI:WrI room L s bad) (hL:L.length≤800000) (hr:room≤2000000000):Calls Tryz.prog 45 #[x.v,ptr pw] w0 (WPost room b s bad (L++winB x) w0):=by
 have hp:=Hp.start1 h.ok
 have hl:=rightB_len hxr
 have hbl:=blkB_len x.hash x.parent x.tx.l
 refine calls_x (args:= [_,_]) tabOk Tryz.func45 Tryz.ntmps45 Tryz.results45 rfl (Nat.le_of_ble_eq_true rfl) ?_
 ((conv=>whnf);repeat' ((first|((with_reducible apply ldn_id);apply lda_hs hp;(focus repeat' constructor);exact rfl)|((with_reducible apply al_id);refine al_cel hp ?_;clear hp;intro bb w hp))<;>(conv=>whnf)))
 refine cl_eq (benc_any (hx.keep hp.chg h.dom) (Nat.le_trans h.le hp.chg.size) hxr) rfl rfl ?_
 rintro e w ⟨r,hrl,rfl,hm⟩
 replace hp:=hp.add hm
 clear hm
 refine ⟨_,rfl,?_⟩
 ((conv=>whnf);repeat' (((with_reducible apply ld_id);(refine ld_of (hp.chg.cell h.cell h.out) ?_))<;>(conv=>whnf)))
 refine cl_eq (packed_any (out_row hp (by simp)) (Nat.le_refl _) (by rw [hrl,hbl];omega) hI (hp.get (j:=2) rfl) (by omega) hr) rfl rfl ?_
 rintro e w ⟨s1,bad1,hI1,rfl,hm⟩
 replace hp:=hp.via (j:=2) rfl hm
 clear hm
 dsimp only [List.set] at hp
 refine ⟨_,rfl,?_⟩
 ((conv=>whnf))
 refine ps_val (v':= .tuple #[]) rfl ⟨s1,bad1,?_,rfl,hp.shut1 (j:=2) rfl⟩
 unfold winB
 rw [←hrl]
 exact hI1
def jobB (x:Job):List UInt8:=numsB [x.key.ses,x.key.seq]++x.breach.toList++numsB [x.height,x.mined]++pckB (bytesP x.pay.l)
theorem wc4_any (x:Job) (hx:PayAt B w0 x.pay) (hxr:rightP x.pay=true) (hxl:(bytesP x.pay.l).length < 65536) (h:WrX B pw b room s bad w0) (hI:WrI room L s bad) (hL:L.length≤800000) (hr:room≤2000000000):Calls Tryz.prog 54 #[x.v,ptr pw] w0 (WPost room b s bad (L++jobB x) w0):=by
 have hp:=Hp.start1 h.ok
 have hn1:(numsB [x.key.ses,x.key.seq]).length=8:=nums_len _
 have hn2:(numsB [x.height,x.mined]).length=8:=nums_len _
 have hh:x.breach.toList.length=32:=by simp
 have henc:=fun {w:World} (hc:Chg (star (wrRs b room s bad)).dom w0 w)=>enc_any (hx.keep hc h.dom) (Nat.le_trans h.le hc.size)
 rw [encP,if_pos hxr] at henc
 refine calls_x (args:= [_,_]) tabOk Tryz.func54 Tryz.ntmps54 Tryz.results54 rfl (Nat.le_of_ble_eq_true rfl) ?_
 ((conv=>whnf);repeat' ((first|((with_reducible apply ld_id);first|(refine ld_of (hp.chg.cell h.cell h.out) ?_)|(apply ld_hs hp;(focus repeat' constructor);exact rfl))|((with_reducible apply al_id);refine al_cel hp ?_;clear hp;intro bb w hp)|((with_reducible apply gen_id);(refine gen_bs rfl hp el_u4 u4L (([x.key.ses,x.key.seq]:List UInt32)) ((([x.key.ses,x.key.seq]:List UInt32)).map u4) rfl rfl rfl (fun _ hh=>rfl) (by omega) ?_);clear hp;intro br w hp))<;>(conv=>whnf)))
 refine cl_eq (nums_any (B:=w.heap.size) (x:=⟨some ⟨br,0,none⟩,2, [x.key.ses,x.key.seq]⟩) hI (hp.get (j:=2) rfl) (out_row hp (by simp)) (by show 2≤100;omega) (by omega) hr) rfl rfl ?_
 rintro e w ⟨s1,bad1,hI1,rfl,hm⟩
 replace hp:=hp.via (j:=2) rfl hm
 clear hm
 dsimp only [List.set] at hp
 refine ⟨_,rfl,?_⟩
 ((conv=>whnf);repeat' ((first|((with_reducible apply ld_id);(refine ld_of (hp.chg.cell h.cell h.out) ?_))|((with_reducible apply ldn_id);apply ldn_hs hp;(focus repeat' constructor);exact rfl;exact rfl))<;>(conv=>whnf)))
 refine cl_eq (widI_any x.breach hI1 (hp.get (j:=2) rfl) (by simp only [List.length_append];omega) hr) rfl rfl ?_
 rintro e w ⟨s2,bad2,hI2,rfl,hm⟩
 replace hp:=hp.via (j:=2) rfl hm
 clear hm
 dsimp only [List.set] at hp
 refine ⟨_,rfl,?_⟩
 ((conv=>whnf);repeat' ((first|((with_reducible apply ld_id);first|(refine ld_of (hp.chg.cell h.cell h.out) ?_)|(apply ld_hs hp;(focus repeat' constructor);exact rfl))|((with_reducible apply gen_id);(refine gen_bs rfl hp el_u4 u4L (([x.height,x.mined]:List UInt32)) ((([x.height,x.mined]:List UInt32)).map u4) rfl rfl rfl (fun _ hh=>rfl) (by omega) ?_);clear hp;intro br w hp))<;>(conv=>whnf)))
 refine cl_eq (nums_any (B:=w.heap.size) (x:=⟨some ⟨br,0,none⟩,2, [x.height,x.mined]⟩) hI2 (hp.get (j:=3) rfl) (out_row hp (by simp)) (by show 2≤100;omega) (by simp only [List.length_append];omega) hr) rfl rfl ?_
 rintro e w ⟨s3,bad3,hI3,rfl,hm⟩
 replace hp:=hp.via (j:=3) rfl hm
 clear hm
 dsimp only [List.set] at hp
 refine ⟨_,rfl,?_⟩
 ((conv=>whnf);repeat' (((with_reducible apply ldn_id);apply ldn_hs hp;(focus repeat' constructor);exact rfl;exact rfl)<;>(conv=>whnf)))
 refine cl_eq (henc hp.chg) rfl rfl ?_
 rintro e w ⟨r,hrl,rfl,hm⟩
 replace hp:=hp.add hm
 clear hm
 dsimp only at hrl
 refine ⟨_,rfl,?_⟩
 ((conv=>whnf);repeat' (((with_reducible apply ld_id);(refine ld_of (hp.chg.cell h.cell h.out) ?_))<;>(conv=>whnf)))
 refine cl_eq (packed_any (out_row hp (by simp)) (Nat.le_refl _) (by rw [hrl];exact hxl) hI3 (hp.get (j:=4) rfl) (by simp only [List.length_append];omega) hr) rfl rfl ?_
 rintro e w ⟨s4,bad4,hI4,rfl,hm⟩
 replace hp:=hp.via (j:=4) rfl hm
 clear hm
 dsimp only [List.set] at hp
 refine ⟨_,rfl,?_⟩
 ((conv=>whnf))
 refine ps_val (v':= .tuple #[]) rfl ⟨s4,bad4,?_,rfl,hp.shut1 (j:=4) rfl⟩
 unfold jobB
 rw [←List.append_assoc,←List.append_assoc,←List.append_assoc,←hrl]
 exact hI4
end
theorem flat_take_len {α:Type} (f:α→List UInt8) (l:List α) (i:Nat):((l.take i).flatMap f).length≤(l.flatMap f).length:=by
 have h:l.flatMap f=(l.take i).flatMap f++(l.drop i).flatMap f:=by rw [←List.flatMap_append,List.take_append_drop]
 rw [h,List.length_append]
 omega
theorem flat_take_next {α:Type} (f:α→List UInt8) {l:List α} {i:Nat} {x:α} (h:l[i]? =some x):(l.take (i+1)).flatMap f=(l.take i).flatMap f++f x:=by
 rw [List.take_add_one,h,List.flatMap_append]
 simp
theorem numFit1 {n:Nat} (h:n < 256):numFit n 1=true:=fit_1 h
section
variable {B pw b room : Nat} {s : Sl UInt8} {bad : Int} {w0 : World} {L : List UInt8}
theorem lay1_any {l:Sl Blk} (hl:SlAt B w0 Blk.c 65 l) (hel:∀x∈l.l,SlAt B w0 Id.c 32 x.tx∧rightB x=true) (hn:l.l.length < 256) (h:WrX B pw b room s bad w0) (hI:WrI room L s bad) (hL:L.length+4+(l.l.flatMap winB).length≤800000) (hr:room≤2000000000):
  Calls Tryz.prog 44 #[ptr b,i64 1,l.v, .func (.func 45) #[] #[ptr pw]] w0 (WPost room b s bad (L++(numB l.l.length 1++l.l.flatMap winB)) w0):=by
 have hp:=Hp.start1 h.ok
 have u1:=Tryz.underlying26
 have hnl:(numB l.l.length 1).length=1:=numB_len _ _ (by omega)
 refine calls_x (args:= [_,_,_,_]) tabOk Tryz.func44 Tryz.ntmps44 Tryz.results44 rfl (Nat.le_of_ble_eq_true rfl) ?_
 ((conv=>whnf);repeat' ((first|((with_reducible apply ar_id);refine ar_u64 (by omega) ?_)|((with_reducible apply gen_id);apply gen_len;exact rfl;exact rfl;assumption))<;>(conv=>whnf)))
 refine cl_eq (wnumI_any l.l.length 1 (by omega) (numFit1 hn) (by omega) hI (hp.get (j:=0) rfl) (by omega) hr) rfl rfl ?_
 rintro e w ⟨s1,bad1,hI1,rfl,hm⟩
 replace hp:=hp.via (j:=0) rfl hm
 clear hm
 dsimp only [List.set] at hp
 refine ⟨_,rfl,?_⟩
 ((conv=>whnf);repeat' (((with_reducible apply gen_id);apply gen_len;exact rfl;exact rfl;assumption)<;>(conv=>whnf)))
 refine lp_inv (α:=Nat×Sl UInt8×Int) (fun a=> [(3, .func (.func 45) #[] #[ptr pw]),(16,l.v),(17,i64 l.l.length),(18,i64 a.1)]) (fun a w=>a.1≤l.l.length∧WrI room (L++numB l.l.length 1++(l.l.take a.1).flatMap winB) a.2.1 a.2.2∧Hp (star (wrRs b room s bad)).dom w0 w [star (wrRs b room a.2.1 a.2.2)]) (fun a=>l.l.length - a.1) (0,s1,bad1) (by (repeat' (first|exact trivial|(refine ⟨rfl,?_⟩)))) ⟨by omega,by simpa using hI1,hp⟩ ?_
 clear hp hI hI1
 rintro ⟨i,s1,bad1⟩ e0 w ⟨hi,hI,hp⟩
 dsimp only at hi hI hp ⊢
 rcases Nat.lt_or_ge i l.l.length with hlt|hge
 ·obtain ⟨bo,o,x,hA,hbb,hrow,hxx⟩:=hl.has hlt
  have hxm:=List.mem_of_getElem? hxx
  have htl:=flat_take_len winB l.l i
  have hB:=h.dom
  ((conv=>whnf);repeat' ((first|((with_reducible apply br_id);(with_reducible refine br_dec (fun hx=>?_) (fun hx=>?_))<;>(try (exfalso;first|omega|contradiction)))|((with_reducible apply cn_id);refine cn rfl ?_)|((with_reducible apply ldn_id);first|(refine ldn_rowx hp hB ‹_› ‹_› _ rfl ‹_› rfl ?_)|(apply lda_hs hp;(focus repeat' constructor);exact rfl))|((with_reducible apply al_id);refine al_cel hp ?_;clear hp;intro bb w hp)|((with_reducible apply st_id);apply sta_hs hp;(focus repeat' constructor);exact rfl;exact rfl;clear hp;intro w hp;(try dsimp only [List.set] at hp))|((with_reducible apply gen_id);(refine gen_ixs rfl rfl ‹_› rfl rfl (by omega) ?_)))<;>(conv=>whnf)))
  have hv:=h.via (s':=s1) (bad':=bad1) hp (by simp)
  have hcl:=wc1_any (pw:=pw) (b:=b) x ((hel x hxm).1.keep hp.chg h.dom) (hel x hxm).2 hv hI (by simp only [List.length_append];omega) hr
  refine cl_eq hcl rfl rfl ?_
  rintro e w ⟨s2,bad2,hI2,rfl,hm⟩
  replace hp:=hp.via (j:=1) rfl hm
  clear hm hcl
  dsimp only [List.set] at hp
  refine ⟨_,rfl,?_⟩
  ((conv=>whnf);repeat' (((with_reducible apply ar_id);(refine ar_n (i+1) (by omega) (by omega) ?_))<;>(conv=>whnf)))
  exact lp_next (i+1,s2,bad2) (by show l.l.length - (i+1) < l.l.length - i;omega) (by (repeat' (first|exact trivial|(refine ⟨rfl,?_⟩)))) ⟨by show i+1≤_;omega,by show WrI room (L++numB l.l.length 1++(l.l.take (i+1)).flatMap winB) s2 bad2;rw [flat_take_next winB hxx,←List.append_assoc];exact hI2,hp.tail⟩
 ·rw [List.take_of_length_le hge] at hI
  ((conv=>whnf);repeat' (((with_reducible apply br_id);(with_reducible refine br_dec (fun hx=>?_) (fun hx=>?_))<;>(try (exfalso;first|omega|contradiction)))<;>(conv=>whnf)))
  exact ps_val (v':= .tuple #[]) rfl ⟨s1,bad1,by rw [←List.append_assoc];exact hI,rfl,hp.shut1 (j:=0) rfl⟩
theorem lay2_any {l:Sl Sess} (hl:SlAt B w0 Sess.c 4 l) (hn:l.l.length < 256) (h:WrX B pw b room s bad w0) (hI:WrI room L s bad) (hL:L.length+4+(l.l.flatMap sesB).length≤800000) (hr:room≤2000000000):
  Calls Tryz.prog 48 #[ptr b,i64 1,l.v, .func (.func 49) #[] #[ptr pw]] w0 (WPost room b s bad (L++(numB l.l.length 1++l.l.flatMap sesB)) w0):=by
 have hp:=Hp.start1 h.ok
 have u1:=Tryz.underlying27
 have hnl:(numB l.l.length 1).length=1:=numB_len _ _ (by omega)
 refine calls_x (args:= [_,_,_,_]) tabOk Tryz.func48 Tryz.ntmps48 Tryz.results48 rfl (Nat.le_of_ble_eq_true rfl) ?_
 ((conv=>whnf);repeat' ((first|((with_reducible apply ar_id);refine ar_u64 (by omega) ?_)|((with_reducible apply gen_id);apply gen_len;exact rfl;exact rfl;assumption))<;>(conv=>whnf)))
 refine cl_eq (wnumI_any l.l.length 1 (by omega) (numFit1 hn) (by omega) hI (hp.get (j:=0) rfl) (by omega) hr) rfl rfl ?_
 rintro e w ⟨s1,bad1,hI1,rfl,hm⟩
 replace hp:=hp.via (j:=0) rfl hm
 clear hm
 dsimp only [List.set] at hp
 refine ⟨_,rfl,?_⟩
 ((conv=>whnf);repeat' (((with_reducible apply gen_id);apply gen_len;exact rfl;exact rfl;assumption)<;>(conv=>whnf)))
 refine lp_inv (α:=Nat×Sl UInt8×Int) (fun a=> [(3, .func (.func 49) #[] #[ptr pw]),(16,l.v),(17,i64 l.l.length),(18,i64 a.1)]) (fun a w=>a.1≤l.l.length∧WrI room (L++numB l.l.length 1++(l.l.take a.1).flatMap sesB) a.2.1 a.2.2∧Hp (star (wrRs b room s bad)).dom w0 w [star (wrRs b room a.2.1 a.2.2)]) (fun a=>l.l.length - a.1) (0,s1,bad1) (by (repeat' (first|exact trivial|(refine ⟨rfl,?_⟩)))) ⟨by omega,by simpa using hI1,hp⟩ ?_
 clear hp hI hI1
 rintro ⟨i,s1,bad1⟩ e0 w ⟨hi,hI,hp⟩
 dsimp only at hi hI hp ⊢
 rcases Nat.lt_or_ge i l.l.length with hlt|hge
 ·obtain ⟨bo,o,x,hA,hbb,hrow,hxx⟩:=hl.has hlt
  have hxm:=List.mem_of_getElem? hxx
  have htl:=flat_take_len sesB l.l i
  have hB:=h.dom
  ((conv=>whnf);repeat' ((first|((with_reducible apply br_id);(with_reducible refine br_dec (fun hx=>?_) (fun hx=>?_))<;>(try (exfalso;first|omega|contradiction)))|((with_reducible apply cn_id);refine cn rfl ?_)|((with_reducible apply ldn_id);first|(refine ldn_rowx hp hB ‹_› ‹_› _ rfl ‹_› rfl ?_)|(apply lda_hs hp;(focus repeat' constructor);exact rfl))|((with_reducible apply al_id);refine al_cel hp ?_;clear hp;intro bb w hp)|((with_reducible apply st_id);apply sta_hs hp;(focus repeat' constructor);exact rfl;exact rfl;clear hp;intro w hp;(try dsimp only [List.set] at hp))|((with_reducible apply gen_id);(refine gen_ixs rfl rfl ‹_› rfl rfl (by omega) ?_)))<;>(conv=>whnf)))
  have hv:=h.via (s':=s1) (bad':=bad1) hp (by simp)
  have hcl:=wc2_any (pw:=pw) (b:=b) x hv hI (by simp only [List.length_append];omega) hr
  refine cl_eq hcl rfl rfl ?_
  rintro e w ⟨s2,bad2,hI2,rfl,hm⟩
  replace hp:=hp.via (j:=1) rfl hm
  clear hm hcl
  dsimp only [List.set] at hp
  refine ⟨_,rfl,?_⟩
  ((conv=>whnf);repeat' (((with_reducible apply ar_id);(refine ar_n (i+1) (by omega) (by omega) ?_))<;>(conv=>whnf)))
  exact lp_next (i+1,s2,bad2) (by show l.l.length - (i+1) < l.l.length - i;omega) (by (repeat' (first|exact trivial|(refine ⟨rfl,?_⟩)))) ⟨by show i+1≤_;omega,by show WrI room (L++numB l.l.length 1++(l.l.take (i+1)).flatMap sesB) s2 bad2;rw [flat_take_next sesB hxx,←List.append_assoc];exact hI2,hp.tail⟩
 ·rw [List.take_of_length_le hge] at hI
  ((conv=>whnf);repeat' (((with_reducible apply br_id);(with_reducible refine br_dec (fun hx=>?_) (fun hx=>?_))<;>(try (exfalso;first|omega|contradiction)))<;>(conv=>whnf)))
  exact ps_val (v':= .tuple #[]) rfl ⟨s1,bad1,by rw [←List.append_assoc];exact hI,rfl,hp.shut1 (j:=0) rfl⟩
theorem lay3_any {l:Sl Blob} (hl:SlAt B w0 Blob.c 19 l) (hel:∀x∈l.l,SlAt B w0 u8L 1 x.data∧x.data.l.length < 65536) (hn:l.l.length < 65536) (h:WrX B pw b room s bad w0) (hI:WrI room L s bad) (hL:L.length+4+(l.l.flatMap blobB).length≤800000) (hr:room≤2000000000):
  Calls Tryz.prog 50 #[ptr b,i64 2,l.v, .func (.func 51) #[] #[ptr pw]] w0 (WPost room b s bad (L++(numB l.l.length 2++l.l.flatMap blobB)) w0):=by
 have hp:=Hp.start1 h.ok
 have u1:=Tryz.underlying28
 have hnl:(numB l.l.length 2).length=2:=numB_len _ _ (by omega)
 refine calls_x (args:= [_,_,_,_]) tabOk Tryz.func50 Tryz.ntmps50 Tryz.results50 rfl (Nat.le_of_ble_eq_true rfl) ?_
 ((conv=>whnf);repeat' ((first|((with_reducible apply ar_id);refine ar_u64 (by omega) ?_)|((with_reducible apply gen_id);apply gen_len;exact rfl;exact rfl;assumption))<;>(conv=>whnf)))
 refine cl_eq (wnumI_any l.l.length 2 (by omega) (numFit2 hn) (by omega) hI (hp.get (j:=0) rfl) (by omega) hr) rfl rfl ?_
 rintro e w ⟨s1,bad1,hI1,rfl,hm⟩
 replace hp:=hp.via (j:=0) rfl hm
 clear hm
 dsimp only [List.set] at hp
 refine ⟨_,rfl,?_⟩
 ((conv=>whnf);repeat' (((with_reducible apply gen_id);apply gen_len;exact rfl;exact rfl;assumption)<;>(conv=>whnf)))
 refine lp_inv (α:=Nat×Sl UInt8×Int) (fun a=> [(3, .func (.func 51) #[] #[ptr pw]),(16,l.v),(17,i64 l.l.length),(18,i64 a.1)]) (fun a w=>a.1≤l.l.length∧WrI room (L++numB l.l.length 2++(l.l.take a.1).flatMap blobB) a.2.1 a.2.2∧Hp (star (wrRs b room s bad)).dom w0 w [star (wrRs b room a.2.1 a.2.2)]) (fun a=>l.l.length - a.1) (0,s1,bad1) (by (repeat' (first|exact trivial|(refine ⟨rfl,?_⟩)))) ⟨by omega,by simpa using hI1,hp⟩ ?_
 clear hp hI hI1
 rintro ⟨i,s1,bad1⟩ e0 w ⟨hi,hI,hp⟩
 dsimp only at hi hI hp ⊢
 rcases Nat.lt_or_ge i l.l.length with hlt|hge
 ·obtain ⟨bo,o,x,hA,hbb,hrow,hxx⟩:=hl.has hlt
  have hxm:=List.mem_of_getElem? hxx
  have htl:=flat_take_len blobB l.l i
  have hB:=h.dom
  ((conv=>whnf);repeat' ((first|((with_reducible apply br_id);(with_reducible refine br_dec (fun hx=>?_) (fun hx=>?_))<;>(try (exfalso;first|omega|contradiction)))|((with_reducible apply cn_id);refine cn rfl ?_)|((with_reducible apply ldn_id);first|(refine ldn_rowx hp hB ‹_› ‹_› _ rfl ‹_› rfl ?_)|(apply lda_hs hp;(focus repeat' constructor);exact rfl))|((with_reducible apply al_id);refine al_cel hp ?_;clear hp;intro bb w hp)|((with_reducible apply st_id);apply sta_hs hp;(focus repeat' constructor);exact rfl;exact rfl;clear hp;intro w hp;(try dsimp only [List.set] at hp))|((with_reducible apply gen_id);(refine gen_ixs rfl rfl ‹_› rfl rfl (by omega) ?_)))<;>(conv=>whnf)))
  have hv:=h.via (s':=s1) (bad':=bad1) hp (by simp)
  have hcl:=wc3_any (pw:=pw) (b:=b) x ((hel x hxm).1.keep hp.chg h.dom) (hel x hxm).2 hv hI (by simp only [List.length_append];omega) hr
  refine cl_eq hcl rfl rfl ?_
  rintro e w ⟨s2,bad2,hI2,rfl,hm⟩
  replace hp:=hp.via (j:=1) rfl hm
  clear hm hcl
  dsimp only [List.set] at hp
  refine ⟨_,rfl,?_⟩
  ((conv=>whnf);repeat' (((with_reducible apply ar_id);(refine ar_n (i+1) (by omega) (by omega) ?_))<;>(conv=>whnf)))
  exact lp_next (i+1,s2,bad2) (by show l.l.length - (i+1) < l.l.length - i;omega) (by (repeat' (first|exact trivial|(refine ⟨rfl,?_⟩)))) ⟨by show i+1≤_;omega,by show WrI room (L++numB l.l.length 2++(l.l.take (i+1)).flatMap blobB) s2 bad2;rw [flat_take_next blobB hxx,←List.append_assoc];exact hI2,hp.tail⟩
 ·rw [List.take_of_length_le hge] at hI
  ((conv=>whnf);repeat' (((with_reducible apply br_id);(with_reducible refine br_dec (fun hx=>?_) (fun hx=>?_))<;>(try (exfalso;first|omega|contradiction)))<;>(conv=>whnf)))
  exact ps_val (v':= .tuple #[]) rfl ⟨s1,bad1,by rw [←List.append_assoc];exact hI,rfl,hp.shut1 (j:=0) rfl⟩
theorem lay4_any {l:Sl Job} (hl:SlAt B w0 Job.c 38 l) (hel:∀x∈l.l,PayAt B w0 x.pay∧rightP x.pay=true∧(bytesP x.pay.l).length < 65536) (hn:l.l.length < 65536) (h:WrX B pw b room s bad w0) (hI:WrI room L s bad) (hL:L.length+4+(l.l.flatMap jobB).length≤800000) (hr:room≤2000000000):
  Calls Tryz.prog 53 #[ptr b,i64 2,l.v, .func (.func 54) #[] #[ptr pw]] w0 (WPost room b s bad (L++(numB l.l.length 2++l.l.flatMap jobB)) w0):=by
 have hp:=Hp.start1 h.ok
 have u1:=Tryz.underlying29
 have hnl:(numB l.l.length 2).length=2:=numB_len _ _ (by omega)
 refine calls_x (args:= [_,_,_,_]) tabOk Tryz.func53 Tryz.ntmps53 Tryz.results53 rfl (Nat.le_of_ble_eq_true rfl) ?_
 ((conv=>whnf);repeat' ((first|((with_reducible apply ar_id);refine ar_u64 (by omega) ?_)|((with_reducible apply gen_id);apply gen_len;exact rfl;exact rfl;assumption))<;>(conv=>whnf)))
 refine cl_eq (wnumI_any l.l.length 2 (by omega) (numFit2 hn) (by omega) hI (hp.get (j:=0) rfl) (by omega) hr) rfl rfl ?_
 rintro e w ⟨s1,bad1,hI1,rfl,hm⟩
 replace hp:=hp.via (j:=0) rfl hm
 clear hm
 dsimp only [List.set] at hp
 refine ⟨_,rfl,?_⟩
 ((conv=>whnf);repeat' (((with_reducible apply gen_id);apply gen_len;exact rfl;exact rfl;assumption)<;>(conv=>whnf)))
 refine lp_inv (α:=Nat×Sl UInt8×Int) (fun a=> [(3, .func (.func 54) #[] #[ptr pw]),(16,l.v),(17,i64 l.l.length),(18,i64 a.1)]) (fun a w=>a.1≤l.l.length∧WrI room (L++numB l.l.length 2++(l.l.take a.1).flatMap jobB) a.2.1 a.2.2∧Hp (star (wrRs b room s bad)).dom w0 w [star (wrRs b room a.2.1 a.2.2)]) (fun a=>l.l.length - a.1) (0,s1,bad1) (by (repeat' (first|exact trivial|(refine ⟨rfl,?_⟩)))) ⟨by omega,by simpa using hI1,hp⟩ ?_
 clear hp hI hI1
 rintro ⟨i,s1,bad1⟩ e0 w ⟨hi,hI,hp⟩
 dsimp only at hi hI hp ⊢
 rcases Nat.lt_or_ge i l.l.length with hlt|hge
 ·obtain ⟨bo,o,x,hA,hbb,hrow,hxx⟩:=hl.has hlt
  have hxm:=List.mem_of_getElem? hxx
  have htl:=flat_take_len jobB l.l i
  have hB:=h.dom
  ((conv=>whnf);repeat' ((first|((with_reducible apply br_id);(with_reducible refine br_dec (fun hx=>?_) (fun hx=>?_))<;>(try (exfalso;first|omega|contradiction)))|((with_reducible apply cn_id);refine cn rfl ?_)|((with_reducible apply ldn_id);first|(refine ldn_rowx hp hB ‹_› ‹_› _ rfl ‹_› rfl ?_)|(apply lda_hs hp;(focus repeat' constructor);exact rfl))|((with_reducible apply al_id);refine al_cel hp ?_;clear hp;intro bb w hp)|((with_reducible apply st_id);apply sta_hs hp;(focus repeat' constructor);exact rfl;exact rfl;clear hp;intro w hp;(try dsimp only [List.set] at hp))|((with_reducible apply gen_id);(refine gen_ixs rfl rfl ‹_› rfl rfl (by omega) ?_)))<;>(conv=>whnf)))
  have hv:=h.via (s':=s1) (bad':=bad1) hp (by simp)
  have hcl:=wc4_any (pw:=pw) (b:=b) x ((hel x hxm).1.keep hp.chg h.dom) (hel x hxm).2.1 (hel x hxm).2.2 hv hI (by simp only [List.length_append];omega) hr
  refine cl_eq hcl rfl rfl ?_
  rintro e w ⟨s2,bad2,hI2,rfl,hm⟩
  replace hp:=hp.via (j:=1) rfl hm
  clear hm hcl
  dsimp only [List.set] at hp
  refine ⟨_,rfl,?_⟩
  ((conv=>whnf);repeat' (((with_reducible apply ar_id);(refine ar_n (i+1) (by omega) (by omega) ?_))<;>(conv=>whnf)))
  exact lp_next (i+1,s2,bad2) (by show l.l.length - (i+1) < l.l.length - i;omega) (by (repeat' (first|exact trivial|(refine ⟨rfl,?_⟩)))) ⟨by show i+1≤_;omega,by show WrI room (L++numB l.l.length 2++(l.l.take (i+1)).flatMap jobB) s2 bad2;rw [flat_take_next jobB hxx,←List.append_assoc];exact hI2,hp.tail⟩
 ·rw [List.take_of_length_le hge] at hI
  ((conv=>whnf);repeat' (((with_reducible apply br_id);(with_reducible refine br_dec (fun hx=>?_) (fun hx=>?_))<;>(try (exfalso;first|omega|contradiction)))<;>(conv=>whnf)))
  exact ps_val (v':= .tuple #[]) rfl ⟨s1,bad1,by rw [←List.append_assoc];exact hI,rfl,hp.shut1 (j:=0) rfl⟩
end
end Go.Proofs.YtpbapnlnheahnaaGreatDoor
