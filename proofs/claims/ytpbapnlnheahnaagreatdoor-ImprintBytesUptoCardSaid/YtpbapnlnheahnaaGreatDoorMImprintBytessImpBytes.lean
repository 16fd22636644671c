/- ImpBytes: the law on a state's bytes: any state of bounded bulk. -/
import Derived.Test.YtpbapnlnheahnaaGreatDoorMImprintBytes35
import Derived.Test.YtpbapnlnheahnaaGreatDoorMImprintBytes36
set_option linter.unusedSimpArgs false
set_option linter.unusedVariables false
namespace Go.Proofs.YtpbapnlnheahnaaGreatDoor
open Go.RowKit Go.Stop
set_option maxRecDepth 100000
set_option maxHeartbeats 500000
theorem whole_enc {x:Sta} (hE:EncOk x):wholeD staC (staB x)= .ok (restP x.p):=by
 rw [←staC_enc hE,whole_mk staC (staC_ok hE)]
theorem whole_cut {x:Sta} (hE:EncOk x) {l:Byt} {b:UInt8} (hl:l++ [b]=staB x):wholeD staC l= .error 2:=by
 rw [←staC_enc hE] at hl
 exact whole_less staC (staC_ok hE) hl
theorem whole_add {x:Sta} (hE:EncOk x) (b:UInt8):wholeD staC (staB x++ [b])= .error 3:=by
 rw [←staC_enc hE,whole_more staC (staC_ok hE)]
theorem impBytes_any {B:Nat} {w0:World} {x:Sta} (hs:StaAt B w0 x) (hb:StaB 1048576 x) (hBw:B≤w0.heap.size) (hlv:∀j∈x.jobs.l, -9223372036854775808≤j.live∧j.live≤9223372036854775807):Calls Tryz.prog 3 #[x.v] w0 fun e w'=>e= .returned (.bool true)∧Chg N0 w0 w':=by
 have hp:=Hp.start (S:=N0) w0
 have hB:∀b,N0 b→B≤b:=fun _ hh=>hh.elim
 have u2:=Tryz.underlying34
 have hfw:=fun {w:World} (hc:Chg N0 w0 w)=>few31_any (hs.keep hc hB) hb
 cases hq:fewS x with
 |false=>
  rw [hq] at hfw
  refine calls_x (args:= [_]) tabOk Tryz.func3 Tryz.ntmps3 Tryz.results3 rfl (Nat.le_of_ble_eq_true rfl) ?_
  ((conv=>whnf);repeat' ((first|((with_reducible apply br_id);first|with_reducible refine br_f ?_|with_reducible refine br_not ?_)|((with_reducible apply ldn_id);apply lda_hs hp;(focus repeat' constructor);exact rfl)|((with_reducible apply al_id);refine al_cel hp ?_;clear hp;intro bb w hp)|((with_reducible apply cl_id);first|((refine cl_eq ((hfw hp.chg)) rfl rfl ?_;rintro e w ⟨rfl,hcc⟩;replace hp:=hp.call0 hcc;refine ⟨_,rfl,?_⟩))|((refine cl_eq ((alive32_any _)) rfl rfl ?_;rintro e w ⟨rfl,hcc⟩;replace hp:=hp.call0 hcc;refine ⟨_,rfl,?_⟩))))<;>(conv=>whnf)))
  exact ps_val (v':= .bool true) rfl ⟨rfl,hp.chg⟩
 |true=>
 rw [hq] at hfw
 have hf:=fewS_at hq
 refine calls_x (args:= [_]) tabOk Tryz.func3 Tryz.ntmps3 Tryz.results3 rfl (Nat.le_of_ble_eq_true rfl) ?_
 ((conv=>whnf);repeat' ((first|((with_reducible apply br_id);first|with_reducible refine br_t ?_|with_reducible refine br_not ?_)|((with_reducible apply ldn_id);apply lda_hs hp;(focus repeat' constructor);exact rfl)|((with_reducible apply al_id);refine al_cel hp ?_;clear hp;intro bb w hp)|((with_reducible apply cl_id);(refine cl_eq ((hfw hp.chg)) rfl rfl ?_;rintro e w ⟨rfl,hcc⟩;replace hp:=hp.call0 hcc;refine ⟨_,rfl,?_⟩)))<;>(conv=>whnf)))
 obtain ⟨b1,hb1⟩:∃b,b=bb:=⟨_,rfl⟩
 subst hb1
 refine cl_eq (iencode_any (hs.keep hp.chg hB) (Nat.le_trans hBw hp.chg.size) hf hlv) rfl rfl ?_
 rintro e w ⟨r1,hr1,rfl,hm⟩
 replace hp:=hp.add hm
 clear hm
 refine ⟨_,rfl,?_⟩
 obtain ⟨n,hn⟩:∃n,(encS x).2=n:=⟨_,rfl⟩
 rw [hn]
 ((conv=>whnf);repeat' (((with_reducible apply ldn_id);apply lda_hs hp;(focus repeat' constructor);exact rfl)<;>(conv=>whnf)))
 refine cl_eq (rencode_any (hs.keep hp.chg hB) (Nat.le_trans hBw hp.chg.size) hf hlv) rfl rfl ?_
 rintro e w ⟨r2,hr2,rfl,hm⟩
 replace hp:=hp.add hm
 clear hm
 refine ⟨_,rfl,?_⟩
 rw [hn]
 have h12:r1.l=r2.l:=by rw [hr1,hr2]
 have hss:(if BinOp.neq=BinOp.eql then decide (r1.l=r2.l) else !decide (r1.l=r2.l))=false:=by simp [h12]
 have hby:=fun {w:World} (hc:Chg N0 w0 w)=>ibytes_any (hs.keep hc hB) (Nat.le_trans hBw hc.size) hf hlv
 have hnn:(n !=n)=false:=by simp
 by_cases hR:rightS x=true
 rotate_left
 ·have hES:encS x=([],1):=by
   unfold encS
   rw [if_neg hR]
  rw [if_neg hR] at hby
  obtain rfl:n=1:=by rw [←hn,hES]
  have hl0:r1.l.length=0:=by rw [hr1,hES];rfl
  ((conv=>whnf);repeat' ((first|((with_reducible apply br_id);first|(with_reducible refine br_0 hss ?_)|(with_reducible refine br_0 hnn ?_)|with_reducible refine br_t ?_|with_reducible refine br_f ?_|((with_reducible refine br_eq (fun hx=>?_) (fun hx=>?_))<;>(try (exfalso;first|omega|exact absurd hx ‹_› |exact absurd ‹_› hx)))|((with_reducible refine br_ne (fun hx=>?_) (fun hx=>?_))<;>(try (exfalso;first|omega|exact absurd hx ‹_› |exact absurd ‹_› hx))))|((with_reducible apply ldn_id);apply lda_hs hp;(focus repeat' constructor);exact rfl)|((with_reducible apply gen_id);first|(refine gen_b2s rfl (hp.row (j:=1) rfl) u2 Tryz.underlying5 Tryz.underlying9 rfl ?_)|(refine gen_b2s rfl (hp.row (j:=0) rfl) u2 Tryz.underlying5 Tryz.underlying9 rfl ?_)|(refine gen_streq rfl (a:=r1.l) (b:=r2.l) rfl rfl (.inr rfl) ?_)|(apply gen_len;exact rfl;exact rfl;assumption))|((with_reducible apply cl_id);first|((refine cl_eq ((hby hp.chg)) rfl rfl ?_;rintro e w ⟨rfl,hcc⟩;replace hp:=hp.call0 hcc;refine ⟨_,rfl,?_⟩))|((refine cl_eq ((alive32_any _)) rfl rfl ?_;rintro e w ⟨rfl,hcc⟩;replace hp:=hp.call0 hcc;refine ⟨_,rfl,?_⟩))))<;>(conv=>whnf)))
  exact ps_val (v':= .bool true) rfl ⟨rfl,hp.chg⟩
 have hE:=enc_ok hR hf.blobs hf.jobs
 by_cases hl:(staB x).length≤60000
 rotate_left
 ·have hES:encS x=([],3):=by
   unfold encS
   rw [if_pos hR,if_neg hl]
  obtain rfl:n=3:=by rw [←hn,hES]
  have hl0:r1.l.length=0:=by rw [hr1,hES];rfl
  ((conv=>whnf);repeat' ((first|((with_reducible apply br_id);first|(with_reducible refine br_0 hss ?_)|(with_reducible refine br_0 hnn ?_)|with_reducible refine br_t ?_|with_reducible refine br_f ?_|((with_reducible refine br_eq (fun hx=>?_) (fun hx=>?_))<;>(try (exfalso;first|omega|exact absurd hx ‹_› |exact absurd ‹_› hx)))|((with_reducible refine br_ne (fun hx=>?_) (fun hx=>?_))<;>(try (exfalso;first|omega|exact absurd hx ‹_› |exact absurd ‹_› hx))))|((with_reducible apply gen_id);first|(refine gen_b2s rfl (hp.row (j:=1) rfl) u2 Tryz.underlying5 Tryz.underlying9 rfl ?_)|(refine gen_b2s rfl (hp.row (j:=0) rfl) u2 Tryz.underlying5 Tryz.underlying9 rfl ?_)|(refine gen_streq rfl (a:=r1.l) (b:=r2.l) rfl rfl (.inr rfl) ?_)|(apply gen_len;exact rfl;exact rfl;assumption))|((with_reducible apply cl_id);(refine cl_eq ((alive32_any _)) rfl rfl ?_;rintro e w ⟨rfl,hcc⟩;replace hp:=hp.call0 hcc;refine ⟨_,rfl,?_⟩)))<;>(conv=>whnf)))
  exact ps_val (v':= .bool true) rfl ⟨rfl,hp.chg⟩
 have hES:encS x=(staB x,0):=by
  unfold encS
  rw [if_pos hR,if_pos hl]
 obtain rfl:n=0:=by rw [←hn,hES]
 have hbl:r1.l=staB x:=by rw [hr1,hES]
 have hlen:=hE.len
 rw [if_pos hR] at hby
 have hd1:decS r1.l=(restP x.p,0):=by rw [hbl];exact decS_enc hR hE hl
 have hpos:1≤r1.l.length:=by
  rw [hbl]
  unfold staB headB
  simp only [List.length_append]
  have:=numB_len x.halt.toNat 1 (by omega)
  omega
 have hll:r1.l.length≤60000:=by rw [hbl];exact hl
 have hr1n:r1.l≠ []:=fun e=>by rw [e] at hpos;exact absurd hpos (by decide)
 have hcut:(r1.cut 1 0 (r1.l.length - 1)).l++ [r1.l.getLast hr1n]=staB x:=by
  rw [←hbl]
  show (r1.l.take (r1.l.length - 1)).drop 0++ [r1.l.getLast hr1n]=r1.l
  rw [List.drop_zero,←List.dropLast_eq_take,List.dropLast_concat_getLast]
 have hd2:decS (r1.cut 1 0 (r1.l.length - 1)).l=(zeroP,2):=decS_less hE hcut hl
 have hd3:decS (r1.l++ [0])=(zeroP,3):=by rw [hbl];exact decS_more hE 0
 have hf1:∀y:Sta,wholeD staC r1.l= .ok y.p→FewI y:=fun y hy=>by
  rw [hbl,whole_enc hE] at hy
  exact few_rest hf (Except.ok.inj hy).symm
 have hf2:∀y:Sta,wholeD staC (r1.cut 1 0 (r1.l.length - 1)).l= .ok y.p→FewI y:=fun y hy=>by
  rw [whole_cut hE hcut] at hy
  cases hy
 have hf3:∀y:Sta,wholeD staC (r1.l++ [0])= .ok y.p→FewI y:=fun y hy=>by
  rw [hbl,whole_add hE 0] at hy
  cases hy
 ((conv=>whnf);repeat' ((first|((with_reducible apply br_id);first|(with_reducible refine br_0 hss ?_)|(with_reducible refine br_0 hnn ?_)|with_reducible refine br_f ?_)|((with_reducible apply gen_id);first|(refine gen_b2s rfl (hp.row (j:=1) rfl) u2 Tryz.underlying5 Tryz.underlying9 rfl ?_)|(refine gen_b2s rfl (hp.row (j:=0) rfl) u2 Tryz.underlying5 Tryz.underlying9 rfl ?_)|(refine gen_streq rfl (a:=r1.l) (b:=r2.l) rfl rfl (.inr rfl) ?_)))<;>(conv=>whnf)))
 refine cl_eq (idecode_any (s:=r1) (hp.row (j:=1) rfl) (by omega) hf1) rfl rfl ?_
 rintro e w ⟨t,ht,rfl,hm⟩
 replace hp:=hp.add hm
 clear hm
 refine ⟨_,rfl,?_⟩
 rw [hd1] at ht ⊢
 dsimp only at ht ⊢
 ((conv=>whnf);repeat' ((first|((with_reducible apply ar_id);(refine ar_n (r1.l.length - 1) (by omega) (by omega) ?_))|((with_reducible apply cn_id);refine cn rfl ?_)|((with_reducible apply al_id);refine al_cel hp ?_;clear hp;intro bb w hp)|((with_reducible apply st_id);apply sta_hs hp;(focus repeat' constructor);exact rfl;exact rfl;clear hp;intro w hp;(try dsimp only [List.set] at hp))|((with_reducible apply gen_id);first|(refine gen_cuth rfl el_u8 r1 rfl (hp.row (j:=3) rfl) rfl (h:=r1.l.length - 1) (by omega) (by omega) ?_)|(apply gen_len;exact rfl;exact rfl;assumption)))<;>(conv=>whnf)))
 refine cl_eq (idecode_any (s:=r1.cut 1 0 (r1.l.length - 1)) ((hp.row (j:=3) rfl).cut (lo:=0) (hi:=r1.l.length - 1) (by omega) (by omega)) (by rw [show (r1.cut 1 0 (r1.l.length - 1)).l.length=r1.l.length - 1 from by show ((r1.l.take (r1.l.length - 1)).drop 0).length=_;rw [List.drop_zero,List.length_take];omega];omega) hf2) rfl rfl ?_
 rintro e w ⟨t2,_,rfl,hm⟩
 replace hp:=hp.add hm
 clear hm
 refine ⟨_,rfl,?_⟩
 rw [hd2]
 dsimp only
 ((conv=>whnf);repeat' ((first|((with_reducible apply cn_id);refine cn rfl ?_)|((with_reducible apply al_id);refine al_cel hp ?_;clear hp;intro bb w hp)|((with_reducible apply st_id);apply sta_hs hp;(focus repeat' constructor);exact rfl;exact rfl;clear hp;intro w hp;(try dsimp only [List.set] at hp)))<;>(conv=>whnf)))
 obtain ⟨b9,hb9⟩:∃b,b=bb:=⟨_,rfl⟩
 subst hb9
 obtain ⟨b7,hb7⟩:∃b,b=bb:=⟨_,rfl⟩
 subst hb7
 replace hp:=hp.pick (rs':= [rowR 5 1 u8L r1,cel b7 31 t.c.toArray,star (staRs t),cel b1 31 x.c.toArray]) [5,2,3,6] (by decide) rfl
 ((conv=>whnf);repeat' (((with_reducible apply gen_id);first|((refine gen_bs rfl hp el_u8 u8L [] [] rfl rfl rfl (fun _ hh=>by cases hh) (by omega) ?_);clear hp;intro bq w hp)|((refine gen_appe rfl hp 0 rfl el_u8 rfl ⟨rfl,rfl,rfl⟩ r1 rfl (hp.row (j:=1) rfl) (fun _ _=>rfl) u8_one (by omega) (by simp only [maxLen];omega) ?_);clear hp;intro A1 c1 w hcc hp;dsimp only [List.set] at hp)|((refine gen_bs rfl hp el_u8 u8L (([0]:List UInt8)) ((([0]:List UInt8)).map u8) rfl rfl rfl (fun _ hh=>rfl) (by omega) ?_);clear hp;intro br w hp)|((refine gen_app (s:=⟨A1,c1,r1.l⟩) rfl hp 1 rfl el_u8 rfl ⟨some ⟨br,0,none⟩,1, [0]⟩ rfl (hp.row (j:=0) rfl) (fun _ _=>rfl) u8_one (by simp only [List.length_cons,List.length_nil];omega) (by simp only [maxLen,List.length_cons,List.length_nil];omega) ?_);clear hp;intro A2 c2 w hp;dsimp only [List.set] at hp))<;>(conv=>whnf)))
 refine cl_eq (idecode_any (s:=⟨A2,c2,r1.l++ [0]⟩) (hp.row (j:=1) rfl) (by show (r1.l++ [(0:UInt8)]).length≤_;rw [List.length_append,List.length_singleton];omega) hf3) rfl rfl ?_
 rintro e w ⟨t3,_,rfl,hm⟩
 replace hp:=hp.add hm
 clear hm
 refine ⟨_,rfl,?_⟩
 rw [show decS (Sl.l (⟨A2,c2,r1.l++ [0]⟩:Sl UInt8))=(zeroP,3) from hd3]
 dsimp only
 ((conv=>whnf);repeat' ((first|((with_reducible apply cn_id);refine cn rfl ?_)|((with_reducible apply al_id);refine al_cel hp ?_;clear hp;intro bb w hp)|((with_reducible apply st_id);apply sta_hs hp;(focus repeat' constructor);exact rfl;exact rfl;clear hp;intro w hp;(try dsimp only [List.set] at hp)))<;>(conv=>whnf)))
 replace hp:=hp.pick (rs':= [rowR 5 1 u8L r1,cel b7 31 t.c.toArray,star (staRs t),cel b1 31 x.c.toArray]) [4,5,6,7] (by decide) rfl
 have hrx:∀{J:Sl Job},J.l=x.jobs.l.map restB→Sta.p {x with jobs:=J}=restP x.p:=fun {J} hJ=>by
  unfold Sta.p restP
  simp only [hJ,List.map_map]
  rfl
 have hsame:∀{w:World} {rs:List Res} {J:Sl Job},J.l=x.jobs.l.map restB→Hp N0 w0 w rs→star (staRs t)∈rs→rowR 59 38 Job.c J∈rs→Calls Tryz.prog 11 #[t.v,Sta.v {x with jobs:=J}] w fun e w'=>e= .returned (.bool true)∧Chg N0 w w':=fun {w rs J} hJ hp h1 h2=>by
  have u:=(hs.keep hp.chg hB).more (Nat.le_trans hBw hp.chg.size)
  have h3:StaAt w.heap.size w {x with jobs:=J}:=⟨u.win,u.tx,u.ses,u.blobs,rowR_at (hp.ok _ h2),fun j hj=>by
   rw [show Sta.jobs {x with jobs:=J}=J from rfl,hJ] at hj
   obtain ⟨k,hk,rfl⟩:=List.mem_map.1 hj
   exact u.pay k hk⟩
  have h4:=same31_any (hp.sta h1) h3
  rw [decide_eq_true (ht.trans (hrx hJ).symm)] at h4
  exact h4
 rw [←hbl] at hby
 refine dr_autos [] 1000 tabOk (by kernel_rfl) (by decide+kernel) ?_
 replace hp:=hp.drew
 ((conv=>whnf);repeat' ((first|((with_reducible apply br_id);first|with_reducible refine br_t ?_|((with_reducible refine br_eq (fun hx=>?_) (fun hx=>?_))<;>(try (exfalso;first|omega|exact absurd hx ‹_› |exact absurd ‹_› hx))))|((with_reducible apply cn_id);refine cn ‹_› ?_)|((with_reducible apply ldn_id);apply lda_hs hp;(focus repeat' constructor);exact rfl)|((with_reducible apply cl_id);first|((refine cl_eq (rrested_any ((hs.keep hp.chg hB).more (Nat.le_trans hBw hp.chg.size)) hf.jobs) rfl rfl ?_;rintro e w ⟨J,hJ,rfl,hm⟩;replace hp:=hp.add hm;replace hm:=hm.chg;refine ⟨_,rfl,?_⟩))|((refine cl_eq ((hsame hJ hp (by simp) (by simp))) rfl rfl ?_;rintro e w ⟨rfl,hcc⟩;replace hp:=hp.call0 hcc;refine ⟨_,rfl,?_⟩))|((refine cl_eq ((hby hp.chg)) rfl rfl ?_;rintro e w ⟨rfl,hcc⟩;replace hp:=hp.call0 hcc;refine ⟨_,rfl,?_⟩))|((refine cl_eq ((alive32_any _)) rfl rfl ?_;rintro e w ⟨rfl,hcc⟩;replace hp:=hp.call0 hcc;refine ⟨_,rfl,?_⟩)))|((with_reducible apply rd_id);apply rd_len;exact rfl;exact rfl;assumption))<;>(conv=>whnf)))
 all_goals exact ps_val (v':= .bool true) rfl ⟨rfl,hp.chg⟩
end Go.Proofs.YtpbapnlnheahnaaGreatDoor
