/- MImprintBytes36: parts of the proof of ImprintBytes: RImp1, RImp2, RImp3. No condition of their own. -/
import Derived.Test.YtpbapnlnheahnaaGreatDoorMImprintBytes31
import Derived.Test.YtpbapnlnheahnaaGreatDoorMImprintBytes35
import Derived.Test.YtpbapnlnheahnaaGreatDoorMImprintBytes18
import Derived.Test.YtpbapnlnheahnaaGreatDoorMImprintBytes34
set_option linter.unusedSimpArgs false
set_option linter.unusedVariables false
namespace Go.Proofs.YtpbapnlnheahnaaGreatDoor
open Go.RowKit
set_option maxRecDepth 100000
set_option maxHeartbeats 4000000
theorem rnums_any {B B':Nat} {w0:World} {q:Sl UInt8} {l:Sl UInt32} (hb:SlAt B w0 u8L 1 q) (hl:SlAt B' w0 u4L 1 l) (hn:l.l.length≤100) (hq:q.l.length≤900000):Calls Tryz.prog 58 #[q.v,l.v] w0 fun e w'=>∃r:Sl UInt8,r.l=q.l++numsB l.l∧e= .returned r.v∧Made (rowR 5 1 u8L r) w0 w':=by
 have hp:=Hp.start (S:=N0) w0
 have hB:∀b,N0 b→B≤b:=fun _ hh=>hh.elim
 have hB':∀b,N0 b→B'≤b:=fun _ hh=>hh.elim
 have u1:=Tryz.underlying73
 have u2:=Tryz.underlying34
 refine calls_x (args:= [_,_]) tabOk Tryz.func58 Tryz.ntmps58 Tryz.results58 rfl (Nat.le_of_ble_eq_true rfl) ?_
 ((conv=>whnf);repeat' (((with_reducible apply gen_id);first|((refine gen_bs rfl hp el_u8 u8L [] [] rfl rfl rfl (fun _ hh=>by cases hh) (by omega) ?_);clear hp;intro br w hp)|((refine gen_app (s:=⟨some ⟨br,0,none⟩,0, []⟩) rfl hp 0 rfl el_u8 rfl q rfl (hb.keep hp.chg hB) (fun _ _=>rfl) u8_one (by simp only [List.length_nil];omega) (by simp only [maxLen,List.length_nil];omega) ?_);clear hp;intro A2 c2 w hp;dsimp only [List.set] at hp))<;>(conv=>whnf)))
 refine lp_inv (α:=Nat×Sl UInt8) (fun a=> [(1,l.v),(5,a.2.v),(6,i64 a.1)]) (fun a w=>a.1≤l.l.length∧a.2.l=q.l++numsB (l.l.take a.1)∧Hp N0 w0 w [rowR 5 1 u8L a.2]) (fun a=>l.l.length - a.1) (0,⟨A2,c2,q.l⟩) (by (repeat' (first|exact trivial|(refine ⟨rfl,?_⟩)))) ⟨Nat.zero_le _,(List.append_nil _).symm,hp⟩ ?_
 clear hp
 rintro ⟨i,r⟩ e0 w ⟨hi,hr,hp⟩
 dsimp only at hi hr hp ⊢
 have hrl:r.l.length≤q.l.length+4*i:=by
  rw [hr,List.length_append,nums_len,List.length_take]
  omega
 rcases Nat.lt_or_ge i l.l.length with hlt|hge
 ·obtain ⟨bo,o,y,hA,hbb,hrow,hyy⟩:=hl.has hlt
  have hy:=y.toNat_lt
  have h4:(numB y.toNat 4).length=4:=numB_len _ _ (by omega)
  have hst:numsB (l.l.take (i+1))=numsB (l.l.take i)++numB y.toNat 4:=by
   unfold numsB
   rw [List.take_add_one,hyy,List.flatMap_append]
   simp
  ((conv=>whnf);repeat' ((first|((with_reducible apply br_id);(with_reducible refine br_dec (fun hx=>?_) (fun hx=>?_))<;>(try (exfalso;first|omega|contradiction)))|((with_reducible apply ar_id);refine ar_u64 (by omega) ?_)|((with_reducible apply ld_id);(refine ld_row0 hp hB' hbb hrow i rfl hyy rfl ?_))|((with_reducible apply gen_id);first|(refine gen_ixs rfl rfl hA rfl rfl (by omega) ?_)|(apply gen_len;exact rfl;exact rfl;assumption)))<;>(conv=>whnf)))
  refine cl_eq (number_any y.toNat 4 (by omega) (by omega)) rfl rfl ?_
  rintro e w ⟨rN,hrN,rfl,hm⟩
  replace hp:=hp.add hm
  clear hm
  refine ⟨_,rfl,?_⟩
  have hrNl:rN.l.length=4:=by rw [hrN,h4]
  ((conv=>whnf);repeat' ((first|((with_reducible apply ar_id);(refine ar_n (i+1) (by omega) (by omega) ?_))|((with_reducible apply gen_id);(refine gen_app (s:=r) rfl hp 1 rfl el_u8 rfl rN rfl (hp.row (j:=0) rfl) (fun _ _=>rfl) u8_one (by omega) (by simp only [maxLen];omega) ?_);clear hp;intro A1 c1 w hp;dsimp only [List.set] at hp))<;>(conv=>whnf)))
  exact lp_next (i+1,⟨A1,c1,r.l++rN.l⟩) (by show l.l.length - (i+1) < l.l.length - i;omega) (by (repeat' (first|exact trivial|(refine ⟨rfl,?_⟩)))) ⟨by show i+1≤_;omega,by show r.l++rN.l=_;rw [hst,hr,hrN,List.append_assoc],hp.tail⟩
 ·rw [List.take_of_length_le hge] at hr
  ((conv=>whnf);repeat' ((first|((with_reducible apply br_id);(with_reducible refine br_dec (fun hx=>?_) (fun hx=>?_))<;>(try (exfalso;first|omega|contradiction)))|((with_reducible apply gen_id);apply gen_len;exact rfl;exact rfl;assumption))<;>(conv=>whnf)))
  exact ps_val (v':=r.v) rfl ⟨r,hr,rfl,hp.made1 (j:=0) rfl⟩
theorem rpacked_any {B B':Nat} {w0:World} {q x:Sl UInt8} (hb:SlAt B w0 u8L 1 q) (hx:SlAt B' w0 u8L 1 x) (hn:x.l.length < 65536) (hq:q.l.length≤900000):Calls Tryz.prog 59 #[q.v,x.v] w0 fun e w'=>∃r:Sl UInt8,r.l=q.l++pckB x.l∧e= .returned r.v∧Made (rowR 5 1 u8L r) w0 w':=by
 have hp:=Hp.start (S:=N0) w0
 have hB:∀b,N0 b→B≤b:=fun _ hh=>hh.elim
 have hB':∀b,N0 b→B'≤b:=fun _ hh=>hh.elim
 have u2:=Tryz.underlying34
 have h2:(numB x.l.length 2).length=2:=numB_len _ _ (by omega)
 refine calls_x (args:= [_,_]) tabOk Tryz.func59 Tryz.ntmps59 Tryz.results59 rfl (Nat.le_of_ble_eq_true rfl) ?_
 ((conv=>whnf);repeat' ((first|((with_reducible apply ar_id);refine ar_u64 (by omega) ?_)|((with_reducible apply gen_id);first|((refine gen_bs rfl hp el_u8 u8L [] [] rfl rfl rfl (fun _ hh=>by cases hh) (by omega) ?_);clear hp;intro br w hp)|((refine gen_app (s:=⟨some ⟨br,0,none⟩,0, []⟩) rfl hp 0 rfl el_u8 rfl q rfl (hb.keep hp.chg hB) (fun _ _=>rfl) u8_one (by simp only [List.length_nil];omega) (by simp only [maxLen,List.length_nil];omega) ?_);clear hp;intro A2 c2 w hp;dsimp only [List.set] at hp)|(apply gen_len;exact rfl;exact rfl;assumption)))<;>(conv=>whnf)))
 refine cl_eq (number_any x.l.length 2 (by omega) (by omega)) rfl rfl ?_
 rintro e w ⟨rN,hrN,rfl,hm⟩
 replace hp:=hp.add hm
 clear hm
 refine ⟨_,rfl,?_⟩
 have hrNl:rN.l.length=2:=by rw [hrN,h2]
 ((conv=>whnf);repeat' (((with_reducible apply gen_id);first|((refine gen_app (s:=⟨A2,c2, []++q.l⟩) rfl hp 1 rfl el_u8 rfl rN rfl (hp.row (j:=0) rfl) (fun _ _=>rfl) u8_one (by simp only [List.nil_append];omega) (by simp only [maxLen,List.nil_append];omega) ?_);clear hp;intro A1 c1 w hp;dsimp only [List.set] at hp)|((refine gen_app (s:=⟨A1,c1,([]++q.l)++rN.l⟩) rfl hp 1 rfl el_u8 rfl x rfl (hx.keep hp.chg hB') (fun _ _=>rfl) u8_one (by simp only [List.nil_append,List.length_append];omega) (by simp only [maxLen,List.nil_append,List.length_append];omega) ?_);clear hp;intro A3 c3 w hp;dsimp only [List.set] at hp))<;>(conv=>whnf)))
 exact ps_val (v':=Sl.v (α:=UInt8) ⟨A3,c3,([]++q.l++rN.l)++x.l⟩) rfl ⟨⟨A3,c3,([]++q.l++rN.l)++x.l⟩,by unfold pckB;rw [hrN];simp,rfl,hp.made1 (j:=1) rfl⟩
theorem rblkB_any {B:Nat} {w0:World} {x:Blk} (h:SlAt B w0 Id.c 32 x.tx) (hr:rightB x=true):Calls Tryz.prog 60 #[x.v] w0 fun e w'=>∃r:Sl UInt8,r.l=blkB x.hash x.parent x.tx.l∧e= .returned r.v∧Made (rowR 5 1 u8L r) w0 w':=by
 have hp:=Hp.start (S:=N0) w0
 have hB:∀b,N0 b→B≤b:=fun _ hh=>hh.elim
 have u1:=Tryz.underlying49
 have u2:=Tryz.underlying34
 have hl:=rightB_len hr
 have h1:x.hash.toList.length=32:=by simp
 have h2:x.parent.toList.length=32:=by simp
 have hnb:numB x.tx.l.length 1= [UInt8.ofNat x.tx.l.length]:=by unfold numB be8;simp
 refine calls_x (args:= [_]) tabOk Tryz.func60 Tryz.ntmps60 Tryz.results60 rfl (Nat.le_of_ble_eq_true rfl) ?_
 ((conv=>whnf);repeat' ((first|((with_reducible apply al_id);refine al_cel hp ?_;clear hp;intro bb w hp)|((with_reducible apply gen_id);(refine gen_bs rfl hp el_u8 u8L [] [] rfl rfl rfl (fun _ hh=>by cases hh) (by omega) ?_);clear hp;intro br w hp))<;>(conv=>whnf)))
 obtain ⟨b1,hb1⟩:∃b,b=bb:=⟨_,rfl⟩
 subst hb1
 have s1:∀{w:World} {rs:List Res} {j:Nat},Hp N0 w0 w rs→rs[j]? =some (cel b1 51 x.c.toArray)→SlAt w.heap.size w u8L 1 (arrS b1 0 x.hash.toList):=fun hp hj=>cel_slat hp hj (fun _ _=>rfl) (by rw [h1];exact idc_flat x.hash) (by rw [h1];simp [maxLen])
 have s2:∀{w:World} {rs:List Res} {j:Nat},Hp N0 w0 w rs→rs[j]? =some (cel b1 51 x.c.toArray)→SlAt w.heap.size w u8L 1 (arrS b1 32 x.parent.toList):=fun hp hj=>cel_slat hp hj (fun _ _=>rfl) (by rw [h2];exact idc_flat x.parent) (by rw [h2];simp [maxLen])
 ((conv=>whnf);repeat' (((with_reducible apply gen_id);first|(refine gen_arr (b:=b1) (ofs:=0) rfl Tryz.underlying48 rfl rfl x.hash.toList (by simp) ?_)|((refine gen_app (s:=⟨some ⟨br,0,none⟩,0, []⟩) rfl hp 0 rfl el_u8 rfl (arrS b1 0 x.hash.toList) rfl (s1 hp (j:=1) rfl) (fun _ _=>rfl) u8_one (by show (0+x.hash.toList.length)*1≤_;omega) (by show 0+x.hash.toList.length≤_;simp only [maxLen];omega) ?_);clear hp;intro A1 c1 w hp;dsimp only [List.set] at hp))<;>(conv=>whnf)))
 ((conv=>whnf);repeat' ((first|((with_reducible apply ar_id);(refine ar_u8n x.tx.l.length rfl ?_))|((with_reducible apply ld_id);apply ld_hs hp;(focus repeat' constructor);exact rfl)|((with_reducible apply gen_id);first|(refine gen_arr (b:=b1) (ofs:=32) rfl Tryz.underlying48 rfl rfl x.parent.toList (by simp) ?_)|((refine gen_app (s:=⟨A1,c1, []++(arrS b1 0 x.hash.toList).l⟩) rfl hp 0 rfl el_u8 rfl (arrS b1 32 x.parent.toList) rfl (s2 hp (j:=1) rfl) (fun _ _=>rfl) u8_one (by show (x.hash.toList.length+x.parent.toList.length)*1≤_;omega) (by show x.hash.toList.length+x.parent.toList.length≤_;simp only [maxLen];omega) ?_);clear hp;intro A2 c2 w hp;dsimp only [List.set] at hp)|((refine gen_bs rfl hp el_u8 u8L (([UInt8.ofNat x.tx.l.length]:List UInt8)) ((([UInt8.ofNat x.tx.l.length]:List UInt8)).map u8) rfl rfl rfl (fun _ hh=>rfl) (by omega) ?_);clear hp;intro br w hp)|((refine gen_app (s:=⟨A2,c2, []++(arrS b1 0 x.hash.toList).l++(arrS b1 32 x.parent.toList).l⟩) rfl hp 1 rfl el_u8 rfl ⟨some ⟨br,0,none⟩,1, [UInt8.ofNat x.tx.l.length]⟩ rfl (hp.row (j:=0) rfl) (fun _ _=>rfl) u8_one (by simp only [List.length_append,List.length_cons,List.length_nil];show (0+x.hash.toList.length+x.parent.toList.length+(0+1))*1≤_;omega) (by simp only [maxLen,List.length_append,List.length_cons,List.length_nil];show 0+x.hash.toList.length+x.parent.toList.length+(0+1)≤_;omega) ?_);clear hp;intro A3 c3 w hp;dsimp only [List.set] at hp)|(apply gen_len;exact rfl;exact rfl;assumption)))<;>(conv=>whnf)))
 have e1:([]++(arrS b1 0 x.hash.toList).l++(arrS b1 32 x.parent.toList).l++ [UInt8.ofNat x.tx.l.length]:List UInt8)=x.hash.toList++x.parent.toList++numB x.tx.l.length 1:=by rw [hnb];rfl
 replace hp:=hp.tail
 refine lp_inv (α:=Nat×Sl UInt8) (fun a=> [(1,ptr b1),(3,a.2.v),(4,i64 a.1)]) (fun a w=>a.1≤x.tx.l.length∧a.2.l=x.hash.toList++x.parent.toList++numB x.tx.l.length 1++(x.tx.l.take a.1).flatMap Vector.toList∧Hp N0 w0 w [rowR 5 1 u8L a.2,cel b1 51 x.c.toArray]) (fun a=>x.tx.l.length - a.1) (0,⟨A3,c3, []++(arrS b1 0 x.hash.toList).l++(arrS b1 32 x.parent.toList).l++ [UInt8.ofNat x.tx.l.length]⟩) (by (repeat' (first|exact trivial|(refine ⟨rfl,?_⟩)))) ⟨Nat.zero_le _,by rw [←e1];exact (List.append_nil _).symm,hp⟩ ?_
 clear hp
 rintro ⟨i,r⟩ e0 w ⟨hi,hr,hp⟩
 dsimp only at hi hr hp ⊢
 have hrl:r.l.length≤65+32*i:=by
  rw [hr,List.length_append,List.length_append,List.length_append,ids_len,List.length_take,hnb]
  simp only [List.length_cons,List.length_nil]
  omega
 rcases Nat.lt_or_ge i x.tx.l.length with hlt|hge
 ·obtain ⟨bo,o,y,hA,hbb,hrow,hyy⟩:=h.has hlt
  have hyl:y.toList.length=32:=by simp
  have sy:∀{w:World},Chg N0 w0 w→SlAt B w u8L 1 (arrS bo (o+i*32) y.toList):=fun hc=>⟨Nat.le_refl _,by simp [arrS,maxLen],fun h=>(by cases h),fun _=>⟨bo,o+i*32,rfl,hbb,id_part (hrow.keep hc (fun hh=>hh.elim)) hyy⟩⟩
  ((conv=>whnf);repeat' ((first|((with_reducible apply br_id);(with_reducible refine br_dec (fun hx=>?_) (fun hx=>?_))<;>(try (exfalso;first|omega|contradiction)))|((with_reducible apply ar_id);(refine ar_n (i+1) (by omega) (by omega) ?_))|((with_reducible apply ld_id);apply ld_hs hp;(focus repeat' constructor);exact rfl)|((with_reducible apply gen_id);first|(refine gen_ixs rfl rfl hA rfl rfl (by omega) ?_)|(refine gen_arr rfl Tryz.underlying48 rfl rfl y.toList (by simp) ?_)|((refine gen_app (s:=r) rfl hp 0 rfl el_u8 rfl (arrS bo (o+i*32) y.toList) rfl (sy hp.chg) (fun _ _=>rfl) u8_one (by show (r.l.length+y.toList.length)*1≤_;omega) (by show r.l.length+y.toList.length≤_;simp only [maxLen];omega) ?_);clear hp;intro A4 c4 w hp;dsimp only [List.set] at hp)|(apply gen_len;exact rfl;exact rfl;assumption)))<;>(conv=>whnf)))
  exact lp_next (i+1,⟨A4,c4,r.l++(arrS bo (o+i*32) y.toList).l⟩) (by show x.tx.l.length - (i+1) < x.tx.l.length - i;omega) (by (repeat' (first|exact trivial|(refine ⟨rfl,?_⟩)))) ⟨by show i+1≤_;omega,by show r.l++y.toList=_;rw [hr,List.take_add_one,hyy,List.flatMap_append];simp,hp⟩
 ·rw [List.take_of_length_le hge] at hr
  ((conv=>whnf);repeat' ((first|((with_reducible apply br_id);(with_reducible refine br_dec (fun hx=>?_) (fun hx=>?_))<;>(try (exfalso;first|omega|contradiction)))|((with_reducible apply ld_id);apply ld_hs hp;(focus repeat' constructor);exact rfl)|((with_reducible apply gen_id);apply gen_len;exact rfl;exact rfl;assumption))<;>(conv=>whnf)))
  exact ps_val (v':=r.v) rfl ⟨r,hr,rfl,hp.made1 (j:=0) rfl⟩
set_option maxHeartbeats 500000
theorem rsta_any {B:Nat} {w0:World} {x:Sta} (hs:StaAt B w0 x) (hBw:B≤w0.heap.size) (hE:EncOk x):Calls Tryz.prog 19 #[x.v] w0 fun e w'=>∃r:Sl UInt8,r.l=staB x∧e= .returned r.v∧Made (rowR 5 1 u8L r) w0 w':=by
 have hp:=Hp.start (S:=N0) w0
 have hB:∀b,N0 b→B≤b:=fun _ hh=>hh.elim
 have uy:=Tryz.underlying34
 have ub:=Tryz.underlying26
 have us:=Tryz.underlying27
 have uo:=Tryz.underlying28
 have uj:=Tryz.underlying29
 have hlen:=hE.len
 unfold staB at hlen
 simp only [List.length_append] at hlen
 have hh:=hE.halt
 have hhd:(headB x).length=33:=by
  unfold headB
  simp only [List.length_append]
  rw [nums_len,nums_len,nums_len,numB_len _ _ (by omega)]
  rfl
 have hw0:=hE.win.1
 have hw1:=hE.nses
 have hw2:=hE.blobs.1
 have hw3:=hE.jobs.1
 have hnb1:∀n,numB n 1= [UInt8.ofNat n]:=fun n=>numB1 n
 refine calls_x (args:= [_]) tabOk Tryz.func19 Tryz.ntmps19 Tryz.results19 rfl (Nat.le_of_ble_eq_true rfl) ?_
 ((conv=>whnf);repeat' ((first|((with_reducible apply ar_id);first|(refine ar_z9 hE.dep ?_)|(refine ar_z9 hE.stp ?_)|(refine ar_z9 hE.kep ?_)|(refine ar_z9 hE.ses ?_)|(refine ar_z9 hE.cap ?_)|(refine ar_z9 hE.com ?_))|((with_reducible apply cn_id);refine cn rfl ?_)|((with_reducible apply ld_id);apply ld_hs hp;(focus repeat' constructor);exact rfl)|((with_reducible apply ldn_id);apply ldn_hs hp;(focus repeat' constructor);exact rfl;exact rfl)|((with_reducible apply al_id);refine al_cel hp ?_;clear hp;intro bb w hp)|((with_reducible apply st_id);apply sta_hs hp;(focus repeat' constructor);exact rfl;exact rfl;clear hp;intro w hp;(try dsimp only [List.set] at hp))|((with_reducible apply gen_id);(refine gen_bs rfl hp el_u4 u4L (([u32Z x.cfg.dep,u32Z x.cfg.stp,u32Z x.cfg.kep,u32Z x.cfg.ses,u32Z x.cfg.cap,u32Z x.cfg.com,x.ht]:List UInt32)) ((([u32Z x.cfg.dep,u32Z x.cfg.stp,u32Z x.cfg.kep,u32Z x.cfg.ses,u32Z x.cfg.cap,u32Z x.cfg.com,x.ht]:List UInt32)).map u4) rfl rfl rfl (fun _ hh=>rfl) (by omega) ?_);clear hp;intro br w hp))<;>(conv=>whnf)))
 obtain ⟨b3,hb3⟩:∃b,b=bb:=⟨_,rfl⟩
 subst hb3
 refine cl_eq (rnums_any (B:=w.heap.size) (B':=w.heap.size) (q:=Sl.nil) (l:=⟨some ⟨br,0,none⟩,7, [u32Z x.cfg.dep,u32Z x.cfg.stp,u32Z x.cfg.kep,u32Z x.cfg.ses,u32Z x.cfg.cap,u32Z x.cfg.com,x.ht]⟩) .none_ (hp.row (j:=0) rfl) (by show 7≤100;omega) (by show 0≤_;omega)) rfl rfl ?_
 rintro e w ⟨r1,hr1,rfl,hm⟩
 replace hp:=hp.add hm
 clear hm
 refine ⟨_,rfl,?_⟩
 obtain ⟨b1,hb1⟩:∃b,b=bb:=⟨_,rfl⟩
 subst hb1
 replace hp:=hp.pick (rs':= [_,cel b1 31 x.c.toArray]) [0,3] (by decide) rfl
 replace hr1:r1.l=numsB (cfgL x.cfg)++numsB [x.ht]:=hr1.trans (numsB_snoc (cfgL x.cfg) x.ht)
 have hl1:r1.l.length=28:=by rw [hr1,List.length_append,nums_len,nums_len];rfl
 ((conv=>whnf);repeat' ((first|((with_reducible apply ar_id);(refine ar_u8n x.halt.toNat (by omega) ?_))|((with_reducible apply ld_id);apply ld_hs hp;(focus repeat' constructor);exact rfl)|((with_reducible apply gen_id);first|((refine gen_bs rfl hp el_u8 u8L (([UInt8.ofNat x.halt.toNat]:List UInt8)) ((([UInt8.ofNat x.halt.toNat]:List UInt8)).map u8) rfl rfl rfl (fun _ hh=>rfl) (by omega) ?_);clear hp;intro br w hp)|((refine gen_app (s:=r1) rfl hp 1 rfl el_u8 rfl ⟨some ⟨br,0,none⟩,1,([UInt8.ofNat x.halt.toNat]:List UInt8)⟩ rfl (hp.row (j:=0) rfl) (fun _ _=>rfl) u8_one (by simp only [List.length_cons,List.length_nil];omega) (by simp only [maxLen,List.length_cons,List.length_nil];omega) ?_);clear hp;intro A2 c2 w hp;dsimp only [List.set] at hp)|((refine gen_bs rfl hp el_u4 u4L (([x.next]:List UInt32)) ((([x.next]:List UInt32)).map u4) rfl rfl rfl (fun _ hh=>rfl) (by omega) ?_);clear hp;intro br w hp)))<;>(conv=>whnf)))
 refine cl_eq (rnums_any (B:=w.heap.size) (B':=w.heap.size) (q:=⟨A2,c2,r1.l++ [UInt8.ofNat x.halt.toNat]⟩) (l:=⟨some ⟨br,0,none⟩,1, [x.next]⟩) (hp.row (j:=2) rfl) (hp.row (j:=0) rfl) (by show 1≤100;omega) (by show (r1.l++ [UInt8.ofNat x.halt.toNat]).length≤_;rw [List.length_append,hl1];show 28+1≤_;omega)) rfl rfl ?_
 rintro e w ⟨r2,hr2,rfl,hm⟩
 replace hp:=hp.add hm
 clear hm
 refine ⟨_,rfl,?_⟩
 replace hp:=hp.pick (rs':= [_,cel b1 31 x.c.toArray]) [0,4] (by decide) rfl
 replace hr2:r2.l=headB x:=by
  rw [hr2]
  show (r1.l++ [UInt8.ofNat x.halt.toNat])++numsB [x.next]=headB x
  rw [hr1,←hnb1]
  rfl
 have hl2:r2.l.length=33:=by rw [hr2,hhd]
 clear hr1 hl1
 ((conv=>whnf);repeat' ((first|((with_reducible apply ar_id);(refine ar_u8n x.win.l.length rfl ?_))|((with_reducible apply ld_id);apply ld_hs hp;(focus repeat' constructor);exact rfl)|((with_reducible apply gen_id);first|((refine gen_bs rfl hp el_u8 u8L (([UInt8.ofNat x.win.l.length]:List UInt8)) ((([UInt8.ofNat x.win.l.length]:List UInt8)).map u8) rfl rfl rfl (fun _ hh=>rfl) (by omega) ?_);clear hp;intro br w hp)|((refine gen_app (s:=r2) rfl hp 1 rfl el_u8 rfl ⟨some ⟨br,0,none⟩,1,([UInt8.ofNat x.win.l.length]:List UInt8)⟩ rfl (hp.row (j:=0) rfl) (fun _ _=>rfl) u8_one (by simp only [List.length_cons,List.length_nil];omega) (by simp only [maxLen,List.length_cons,List.length_nil];omega) ?_);clear hp;intro A2 c2 w hp;dsimp only [List.set] at hp)|(apply gen_len;exact rfl;exact rfl;assumption)))<;>(conv=>whnf)))
 have hq0:r2.l++ [UInt8.ofNat x.win.l.length]=headB x++numB x.win.l.length 1:=by rw [hr2,←hnb1]
 replace hp:=hp.tail
 have hn0:(numB x.win.l.length 1).length=1:=numB_len _ _ (by omega)
 refine lp_inv (α:=Nat×Sl UInt8) (fun a=> [(1,ptr b1),(4,a.2.v),(5,i64 a.1)]) (fun a w=>a.1≤x.win.l.length∧a.2.l=headB x++numB x.win.l.length 1++(x.win.l.take a.1).flatMap winB∧Hp N0 w0 w [rowR 5 1 u8L a.2,cel b1 31 x.c.toArray]) (fun a=>x.win.l.length - a.1) (0,⟨A2,c2,r2.l++ [UInt8.ofNat x.win.l.length]⟩) (by (repeat' (first|exact trivial|(refine ⟨rfl,?_⟩)))) ⟨Nat.zero_le _,hq0.trans (List.append_nil _).symm,hp⟩ ?_
 clear hp hq0
 rintro ⟨i,r⟩ e0 w ⟨hi,hr,hp⟩
 dsimp only at hi hr hp ⊢
 have hft:=flat_take_len winB x.win.l i
 have hP:(headB x++numB x.win.l.length 1).length=33+1:=by
  simp only [List.length_append]
  omega
 have hrl:r.l.length≤33+1+(x.win.l.flatMap winB).length:=by
  rw [hr,List.length_append,hP]
  omega
 rcases Nat.lt_or_ge i x.win.l.length with hlt|hge
 ·obtain ⟨bo,o,y,hA,hbb,hrow,hyy⟩:=hs.win.has hlt
  have hmem:=List.mem_of_getElem? hyy
  have hyr:=hE.win.2 y hmem
  have hyl:=rightB_len hyr
  have hbl:=blkB_len y.hash y.parent y.tx.l
  have hst:=flat_take_next winB hyy
  ((conv=>whnf);repeat' ((first|((with_reducible apply br_id);(with_reducible refine br_dec (fun hx=>?_) (fun hx=>?_))<;>(try (exfalso;first|omega|contradiction)))|((with_reducible apply ld_id);apply ld_hs hp;(focus repeat' constructor);exact rfl)|((with_reducible apply ldn_id);(refine ldn_rowx hp hB ‹_› ‹_› _ rfl ‹_› rfl ?_))|((with_reducible apply gen_id);first|(refine gen_ixs rfl rfl ‹_› rfl rfl (by omega) ?_)|(apply gen_len;exact rfl;exact rfl;assumption)))<;>(conv=>whnf)))
  refine cl_eq (rblkB_any ((hs.tx y hmem).keep hp.chg hB) hyr) rfl rfl ?_
  rintro e w ⟨rb,hrb,rfl,hm⟩
  replace hp:=hp.add hm
  clear hm
  refine ⟨_,rfl,?_⟩
  refine cl_eq (rpacked_any (hp.row (j:=1) rfl) (hp.row (j:=0) rfl) (by rw [hrb,hbl];omega) (by omega)) rfl rfl ?_
  rintro e w ⟨rn,hrn,rfl,hm⟩
  replace hp:=hp.add hm
  clear hm
  refine ⟨_,rfl,?_⟩
  rw [hrb] at hrn
  ((conv=>whnf);repeat' (((with_reducible apply ar_id);(refine ar_n (i+1) (by omega) (by omega) ?_))<;>(conv=>whnf)))
  exact lp_next (i+1,rn) (by show x.win.l.length - (i+1) < x.win.l.length - i;omega) (by (repeat' (first|exact trivial|(refine ⟨rfl,?_⟩)))) ⟨by show i+1≤_;omega,by show rn.l=_;rw [hst,hrn,hr,List.append_assoc];rfl,hp.pick [0,3] (by decide) rfl⟩
 rw [List.take_of_length_le hge] at hr
 clear hft hrl
 obtain ⟨r3,rfl⟩:∃y,y=r:=⟨_,rfl⟩
 have hr3:r3.l=headB x++numB x.win.l.length 1++x.win.l.flatMap winB:=hr
 have hl3:r3.l.length=33+1+(x.win.l.flatMap winB).length:=by rw [hr,List.length_append,hP]
 clear hr hP hr2 hl2
 ((conv=>whnf);repeat' ((first|((with_reducible apply br_id);(with_reducible refine br_dec (fun hx=>?_) (fun hx=>?_))<;>(try (exfalso;first|omega|contradiction)))|((with_reducible apply ar_id);(refine ar_u8n x.ses.l.length rfl ?_))|((with_reducible apply ld_id);apply ld_hs hp;(focus repeat' constructor);exact rfl)|((with_reducible apply gen_id);first|((refine gen_bs rfl hp el_u8 u8L (([UInt8.ofNat x.ses.l.length]:List UInt8)) ((([UInt8.ofNat x.ses.l.length]:List UInt8)).map u8) rfl rfl rfl (fun _ hh=>rfl) (by omega) ?_);clear hp;intro br w hp)|((refine gen_app (s:=r3) rfl hp 1 rfl el_u8 rfl ⟨some ⟨br,0,none⟩,1,([UInt8.ofNat x.ses.l.length]:List UInt8)⟩ rfl (hp.row (j:=0) rfl) (fun _ _=>rfl) u8_one (by simp only [List.length_cons,List.length_nil];omega) (by simp only [maxLen,List.length_cons,List.length_nil];omega) ?_);clear hp;intro A2 c2 w hp;dsimp only [List.set] at hp)|(apply gen_len;exact rfl;exact rfl;assumption)))<;>(conv=>whnf)))
 have hq0:r3.l++ [UInt8.ofNat x.ses.l.length]=headB x++numB x.win.l.length 1++x.win.l.flatMap winB++numB x.ses.l.length 1:=by rw [hr3,←hnb1]
 replace hp:=hp.tail
 have hn1:(numB x.ses.l.length 1).length=1:=numB_len _ _ (by omega)
 refine lp_inv (α:=Nat×Sl UInt8) (fun a=> [(1,ptr b1),(4,a.2.v),(6,i64 a.1)]) (fun a w=>a.1≤x.ses.l.length∧a.2.l=headB x++numB x.win.l.length 1++x.win.l.flatMap winB++numB x.ses.l.length 1++(x.ses.l.take a.1).flatMap sesB∧Hp N0 w0 w [rowR 5 1 u8L a.2,cel b1 31 x.c.toArray]) (fun a=>x.ses.l.length - a.1) (0,⟨A2,c2,r3.l++ [UInt8.ofNat x.ses.l.length]⟩) (by (repeat' (first|exact trivial|(refine ⟨rfl,?_⟩)))) ⟨Nat.zero_le _,hq0.trans (List.append_nil _).symm,hp⟩ ?_
 clear hp hq0
 rintro ⟨i,r⟩ e0 w ⟨hi,hr,hp⟩
 dsimp only at hi hr hp ⊢
 have hft:=flat_take_len sesB x.ses.l i
 have hP:(headB x++numB x.win.l.length 1++x.win.l.flatMap winB++numB x.ses.l.length 1).length=33+1+(x.win.l.flatMap winB).length+1:=by
  simp only [List.length_append]
  omega
 have hrl:r.l.length≤33+1+(x.win.l.flatMap winB).length+1+(x.ses.l.flatMap sesB).length:=by
  rw [hr,List.length_append,hP]
  omega
 rcases Nat.lt_or_ge i x.ses.l.length with hlt|hge
 ·obtain ⟨bo,o,y,hA,hbb,hrow,hyy⟩:=hs.ses.has hlt
  have hst:=flat_take_next sesB hyy
  ((conv=>whnf);repeat' ((first|((with_reducible apply br_id);(with_reducible refine br_dec (fun hx=>?_) (fun hx=>?_))<;>(try (exfalso;first|omega|contradiction)))|((with_reducible apply cn_id);refine cn rfl ?_)|((with_reducible apply ld_id);apply ld_hs hp;(focus repeat' constructor);exact rfl)|((with_reducible apply ldn_id);(refine ldn_rowx hp hB ‹_› ‹_› _ rfl ‹_› rfl ?_))|((with_reducible apply al_id);refine al_cel hp ?_;clear hp;intro bb w hp)|((with_reducible apply st_id);apply sta_hs hp;(focus repeat' constructor);exact rfl;exact rfl;clear hp;intro w hp;(try dsimp only [List.set] at hp))|((with_reducible apply gen_id);first|(refine gen_ixs rfl rfl ‹_› rfl rfl (by omega) ?_)|((refine gen_bs rfl hp el_u4 u4L (([y.id,y.quota,y.used,y.exp]:List UInt32)) ((([y.id,y.quota,y.used,y.exp]:List UInt32)).map u4) rfl rfl rfl (fun _ hh=>rfl) (by omega) ?_);clear hp;intro br w hp)|(apply gen_len;exact rfl;exact rfl;assumption)))<;>(conv=>whnf)))
  refine cl_eq (rnums_any (B:=w.heap.size) (B':=w.heap.size) (q:=r) (l:=⟨some ⟨br,0,none⟩,4, [y.id,y.quota,y.used,y.exp]⟩) (hp.row (j:=2) rfl) (hp.row (j:=0) rfl) (by show 4≤100;omega) (by omega)) rfl rfl ?_
  rintro e w ⟨rn,hrn,rfl,hm⟩
  replace hp:=hp.add hm
  clear hm
  refine ⟨_,rfl,?_⟩
  ((conv=>whnf);repeat' (((with_reducible apply ar_id);(refine ar_n (i+1) (by omega) (by omega) ?_))<;>(conv=>whnf)))
  exact lp_next (i+1,rn) (by show x.ses.l.length - (i+1) < x.ses.l.length - i;omega) (by (repeat' (first|exact trivial|(refine ⟨rfl,?_⟩)))) ⟨by show i+1≤_;omega,by show rn.l=_;rw [hst,hrn,hr,List.append_assoc];rfl,hp.pick [0,4] (by decide) rfl⟩
 rw [List.take_of_length_le hge] at hr
 clear hft hrl
 obtain ⟨r4,rfl⟩:∃y,y=r:=⟨_,rfl⟩
 have hr4:r4.l=headB x++numB x.win.l.length 1++x.win.l.flatMap winB++numB x.ses.l.length 1++x.ses.l.flatMap sesB:=hr
 have hl4:r4.l.length=33+1+(x.win.l.flatMap winB).length+1+(x.ses.l.flatMap sesB).length:=by rw [hr,List.length_append,hP]
 clear hr hP hr3 hl3
 ((conv=>whnf);repeat' ((first|((with_reducible apply br_id);(with_reducible refine br_dec (fun hx=>?_) (fun hx=>?_))<;>(try (exfalso;first|omega|contradiction)))|((with_reducible apply ar_id);refine ar_u64 (by omega) ?_)|((with_reducible apply ld_id);apply ld_hs hp;(focus repeat' constructor);exact rfl)|((with_reducible apply gen_id);apply gen_len;exact rfl;exact rfl;assumption))<;>(conv=>whnf)))
 refine cl_eq (number_any x.blobs.l.length 2 (by omega) (by omega)) rfl rfl ?_
 rintro e w ⟨rN,hrN,rfl,hm⟩
 replace hp:=hp.add hm
 clear hm
 refine ⟨_,rfl,?_⟩
 have hn2:(numB x.blobs.l.length 2).length=2:=numB_len _ _ (by omega)
 have hrNl:rN.l.length=2:=by rw [hrN,hn2]
 ((conv=>whnf);repeat' (((with_reducible apply gen_id);(refine gen_app (s:=r4) rfl hp 1 rfl el_u8 rfl rN rfl (hp.row (j:=0) rfl) (fun _ _=>rfl) u8_one (by omega) (by simp only [maxLen];omega) ?_);clear hp;intro A2 c2 w hp;dsimp only [List.set] at hp)<;>(conv=>whnf)))
 have hq0:r4.l++rN.l=headB x++numB x.win.l.length 1++x.win.l.flatMap winB++numB x.ses.l.length 1++x.ses.l.flatMap sesB++numB x.blobs.l.length 2:=by rw [hr4,hrN]
 replace hp:=hp.tail
 refine lp_inv (α:=Nat×Sl UInt8) (fun a=> [(1,ptr b1),(4,a.2.v),(8,i64 a.1)]) (fun a w=>a.1≤x.blobs.l.length∧a.2.l=headB x++numB x.win.l.length 1++x.win.l.flatMap winB++numB x.ses.l.length 1++x.ses.l.flatMap sesB++numB x.blobs.l.length 2++(x.blobs.l.take a.1).flatMap blobB∧Hp N0 w0 w [rowR 5 1 u8L a.2,cel b1 31 x.c.toArray]) (fun a=>x.blobs.l.length - a.1) (0,⟨A2,c2,r4.l++rN.l⟩) (by (repeat' (first|exact trivial|(refine ⟨rfl,?_⟩)))) ⟨Nat.zero_le _,hq0.trans (List.append_nil _).symm,hp⟩ ?_
 clear hp hq0
 rintro ⟨i,r⟩ e0 w ⟨hi,hr,hp⟩
 dsimp only at hi hr hp ⊢
 have hft:=flat_take_len blobB x.blobs.l i
 have hP:(headB x++numB x.win.l.length 1++x.win.l.flatMap winB++numB x.ses.l.length 1++x.ses.l.flatMap sesB++numB x.blobs.l.length 2).length=33+1+(x.win.l.flatMap winB).length+1+(x.ses.l.flatMap sesB).length+2:=by
  simp only [List.length_append]
  omega
 have hrl:r.l.length≤33+1+(x.win.l.flatMap winB).length+1+(x.ses.l.flatMap sesB).length+2+(x.blobs.l.flatMap blobB).length:=by
  rw [hr,List.length_append,hP]
  omega
 rcases Nat.lt_or_ge i x.blobs.l.length with hlt|hge
 ·obtain ⟨bo,o,y,hA,hbb,hrow,hyy⟩:=hs.blobs.row.has hlt
  have hmem:=List.mem_of_getElem? hyy
  have hst:=flat_take_next blobB hyy
  have ha:y.hint.toList.length=16:=by simp
  ((conv=>whnf);repeat' ((first|((with_reducible apply br_id);(with_reducible refine br_dec (fun hx=>?_) (fun hx=>?_))<;>(try (exfalso;first|omega|contradiction)))|((with_reducible apply cn_id);refine cn rfl ?_)|((with_reducible apply ld_id);apply ld_hs hp;(focus repeat' constructor);exact rfl)|((with_reducible apply ldn_id);(refine ldn_rowx hp hB ‹_› ‹_› _ rfl ‹_› rfl ?_))|((with_reducible apply al_id);refine al_cel hp ?_;clear hp;intro bb w hp)|((with_reducible apply st_id);apply sta_hs hp;(focus repeat' constructor);exact rfl;exact rfl;clear hp;intro w hp;(try dsimp only [List.set] at hp))|((with_reducible apply gen_id);first|(refine gen_ixs rfl rfl ‹_› rfl rfl (by omega) ?_)|((refine gen_bs rfl hp el_u4 u4L (([y.key.ses,y.key.seq]:List UInt32)) ((([y.key.ses,y.key.seq]:List UInt32)).map u4) rfl rfl rfl (fun _ hh=>rfl) (by omega) ?_);clear hp;intro br w hp)|(apply gen_len;exact rfl;exact rfl;assumption)))<;>(conv=>whnf)))
  obtain ⟨b9,hb9⟩:∃b,b=bb:=⟨_,rfl⟩
  subst hb9
  have hyc:∀{w:World} {rs:List Res} {j:Nat},Hp N0 w0 w rs→rs[j]? =some (cel b9 46 y.c.toArray)→SlAt w.heap.size w u8L 1 (arrS b9 2 y.hint.toList):=fun hp hj=>cel_slat hp hj (fun _ _=>rfl) (by rw [ha];have h:=hint_flat y.hint;rw [List.drop_zero,ha] at h;exact h) (by rw [ha];simp [maxLen])
  refine cl_eq (rnums_any (B:=w.heap.size) (B':=w.heap.size) (q:=r) (l:=⟨some ⟨br,0,none⟩,2, [y.key.ses,y.key.seq]⟩) (hp.row (j:=2) rfl) (hp.row (j:=0) rfl) (by show 2≤100;omega) (by omega)) rfl rfl ?_
  rintro e w ⟨ra,hra,rfl,hm⟩
  replace hp:=hp.add hm
  clear hm
  refine ⟨_,rfl,?_⟩
  have hral:ra.l.length=r.l.length+8:=by rw [hra,List.length_append,nums_len];rfl
  replace hp:=hp.pick (rs':= [_,cel b9 46 y.c.toArray,cel b1 31 x.c.toArray]) [0,2,4] (by decide) rfl
  ((conv=>whnf);repeat' ((first|((with_reducible apply ld_id);apply ld_hs hp;(focus repeat' constructor);exact rfl)|((with_reducible apply gen_id);first|(refine gen_arr (b:=b9) (ofs:=2) rfl Tryz.underlying44 rfl rfl y.hint.toList (by simp) ?_)|((refine gen_app (s:=ra) rfl hp 0 rfl el_u8 rfl (arrS b9 2 y.hint.toList) rfl (hyc hp (j:=1) rfl) (fun _ _=>rfl) u8_one (by show (ra.l.length+y.hint.toList.length)*1≤_;omega) (by show ra.l.length+y.hint.toList.length≤_;simp only [maxLen];omega) ?_);clear hp;intro A3 c3 w hp;dsimp only [List.set] at hp)))<;>(conv=>whnf)))
  have hrbl:(ra.l++(arrS b9 2 y.hint.toList).l).length=r.l.length+24:=by
   rw [List.length_append,hral]
   show r.l.length+8+y.hint.toList.length=_
   omega
  refine cl_eq (rpacked_any (q:=⟨A3,c3,ra.l++(arrS b9 2 y.hint.toList).l⟩) (hp.row (j:=0) rfl) ((hs.blobs.data y hmem).keep hp.chg hB) (hE.blobs.2 y hmem) (by show (ra.l++(arrS b9 2 y.hint.toList).l).length≤_;omega)) rfl rfl ?_
  rintro e w ⟨rn,hrn,rfl,hm⟩
  replace hp:=hp.add hm
  clear hm
  refine ⟨_,rfl,?_⟩
  ((conv=>whnf);repeat' (((with_reducible apply ar_id);(refine ar_n (i+1) (by omega) (by omega) ?_))<;>(conv=>whnf)))
  exact lp_next (i+1,rn) (by show x.blobs.l.length - (i+1) < x.blobs.l.length - i;omega) (by (repeat' (first|exact trivial|(refine ⟨rfl,?_⟩)))) ⟨by show i+1≤_;omega,by show rn.l=_;rw [hst,hrn,hra,hr,show blobB y=numsB [y.key.ses,y.key.seq]++y.hint.toList++pckB y.data.l from rfl];simp only [List.append_assoc];rfl,hp.pick [0,3] (by decide) rfl⟩
 rw [List.take_of_length_le hge] at hr
 clear hft hrl
 obtain ⟨r5,rfl⟩:∃y,y=r:=⟨_,rfl⟩
 have hr5:r5.l=headB x++numB x.win.l.length 1++x.win.l.flatMap winB++numB x.ses.l.length 1++x.ses.l.flatMap sesB++numB x.blobs.l.length 2++x.blobs.l.flatMap blobB:=hr
 have hl5:r5.l.length=33+1+(x.win.l.flatMap winB).length+1+(x.ses.l.flatMap sesB).length+2+(x.blobs.l.flatMap blobB).length:=by rw [hr,List.length_append,hP]
 clear hr hP hr4 hl4
 ((conv=>whnf);repeat' ((first|((with_reducible apply br_id);(with_reducible refine br_dec (fun hx=>?_) (fun hx=>?_))<;>(try (exfalso;first|omega|contradiction)))|((with_reducible apply ar_id);refine ar_u64 (by omega) ?_)|((with_reducible apply ld_id);apply ld_hs hp;(focus repeat' constructor);exact rfl)|((with_reducible apply gen_id);apply gen_len;exact rfl;exact rfl;assumption))<;>(conv=>whnf)))
 refine cl_eq (number_any x.jobs.l.length 2 (by omega) (by omega)) rfl rfl ?_
 rintro e w ⟨rN,hrN,rfl,hm⟩
 replace hp:=hp.add hm
 clear hm
 refine ⟨_,rfl,?_⟩
 have hn3:(numB x.jobs.l.length 2).length=2:=numB_len _ _ (by omega)
 have hrNl:rN.l.length=2:=by rw [hrN,hn3]
 ((conv=>whnf);repeat' (((with_reducible apply gen_id);(refine gen_app (s:=r5) rfl hp 1 rfl el_u8 rfl rN rfl (hp.row (j:=0) rfl) (fun _ _=>rfl) u8_one (by omega) (by simp only [maxLen];omega) ?_);clear hp;intro A2 c2 w hp;dsimp only [List.set] at hp)<;>(conv=>whnf)))
 have hq0:r5.l++rN.l=headB x++numB x.win.l.length 1++x.win.l.flatMap winB++numB x.ses.l.length 1++x.ses.l.flatMap sesB++numB x.blobs.l.length 2++x.blobs.l.flatMap blobB++numB x.jobs.l.length 2:=by rw [hr5,hrN]
 replace hp:=hp.tail
 refine lp_inv (α:=Nat×Sl UInt8) (fun a=> [(1,ptr b1),(4,a.2.v),(10,i64 a.1)]) (fun a w=>a.1≤x.jobs.l.length∧a.2.l=headB x++numB x.win.l.length 1++x.win.l.flatMap winB++numB x.ses.l.length 1++x.ses.l.flatMap sesB++numB x.blobs.l.length 2++x.blobs.l.flatMap blobB++numB x.jobs.l.length 2++(x.jobs.l.take a.1).flatMap jobB∧Hp N0 w0 w [rowR 5 1 u8L a.2,cel b1 31 x.c.toArray]) (fun a=>x.jobs.l.length - a.1) (0,⟨A2,c2,r5.l++rN.l⟩) (by (repeat' (first|exact trivial|(refine ⟨rfl,?_⟩)))) ⟨Nat.zero_le _,hq0.trans (List.append_nil _).symm,hp⟩ ?_
 clear hp hq0
 rintro ⟨i,r⟩ e0 w ⟨hi,hr,hp⟩
 dsimp only at hi hr hp ⊢
 have hft:=flat_take_len jobB x.jobs.l i
 have hP:(headB x++numB x.win.l.length 1++x.win.l.flatMap winB++numB x.ses.l.length 1++x.ses.l.flatMap sesB++numB x.blobs.l.length 2++x.blobs.l.flatMap blobB++numB x.jobs.l.length 2).length=33+1+(x.win.l.flatMap winB).length+1+(x.ses.l.flatMap sesB).length+2+(x.blobs.l.flatMap blobB).length+2:=by
  simp only [List.length_append]
  omega
 have hrl:r.l.length≤33+1+(x.win.l.flatMap winB).length+1+(x.ses.l.flatMap sesB).length+2+(x.blobs.l.flatMap blobB).length+2+(x.jobs.l.flatMap jobB).length:=by
  rw [hr,List.length_append,hP]
  omega
 rcases Nat.lt_or_ge i x.jobs.l.length with hlt|hge
 ·obtain ⟨bo,o,y,hA,hbb,hrow,hyy⟩:=hs.jobs.has hlt
  have hmem:=List.mem_of_getElem? hyy
  have hst:=flat_take_next jobB hyy
  have ha:y.breach.toList.length=32:=by simp
  ((conv=>whnf);repeat' ((first|((with_reducible apply br_id);(with_reducible refine br_dec (fun hx=>?_) (fun hx=>?_))<;>(try (exfalso;first|omega|contradiction)))|((with_reducible apply cn_id);refine cn rfl ?_)|((with_reducible apply ld_id);apply ld_hs hp;(focus repeat' constructor);exact rfl)|((with_reducible apply ldn_id);(refine ldn_rowx hp hB ‹_› ‹_› _ rfl ‹_› rfl ?_))|((with_reducible apply al_id);refine al_cel hp ?_;clear hp;intro bb w hp)|((with_reducible apply st_id);apply sta_hs hp;(focus repeat' constructor);exact rfl;exact rfl;clear hp;intro w hp;(try dsimp only [List.set] at hp))|((with_reducible apply gen_id);first|(refine gen_ixs rfl rfl ‹_› rfl rfl (by omega) ?_)|((refine gen_bs rfl hp el_u4 u4L (([y.key.ses,y.key.seq]:List UInt32)) ((([y.key.ses,y.key.seq]:List UInt32)).map u4) rfl rfl rfl (fun _ hh=>rfl) (by omega) ?_);clear hp;intro br w hp)|(apply gen_len;exact rfl;exact rfl;assumption)))<;>(conv=>whnf)))
  obtain ⟨b9,hb9⟩:∃b,b=bb:=⟨_,rfl⟩
  subst hb9
  have hyc:∀{w:World} {rs:List Res} {j:Nat},Hp N0 w0 w rs→rs[j]? =some (cel b9 59 y.c.toArray)→SlAt w.heap.size w u8L 1 (arrS b9 2 y.breach.toList):=fun hp hj=>cel_slat hp hj (fun _ _=>rfl) (by rw [ha];show _=y.breach.toList.flatMap u8L;rw [←idc_flat];rfl) (by rw [ha];simp [maxLen])
  refine cl_eq (rnums_any (B:=w.heap.size) (B':=w.heap.size) (q:=r) (l:=⟨some ⟨br,0,none⟩,2, [y.key.ses,y.key.seq]⟩) (hp.row (j:=2) rfl) (hp.row (j:=0) rfl) (by show 2≤100;omega) (by omega)) rfl rfl ?_
  rintro e w ⟨ra,hra,rfl,hm⟩
  replace hp:=hp.add hm
  clear hm
  refine ⟨_,rfl,?_⟩
  have hral:ra.l.length=r.l.length+8:=by rw [hra,List.length_append,nums_len];rfl
  replace hp:=hp.pick (rs':= [_,cel b9 59 y.c.toArray,cel b1 31 x.c.toArray]) [0,2,4] (by decide) rfl
  ((conv=>whnf);repeat' ((first|((with_reducible apply ld_id);apply ld_hs hp;(focus repeat' constructor);exact rfl)|((with_reducible apply gen_id);first|(refine gen_arr (b:=b9) (ofs:=2) rfl Tryz.underlying48 rfl rfl y.breach.toList (by simp) ?_)|((refine gen_app (s:=ra) rfl hp 0 rfl el_u8 rfl (arrS b9 2 y.breach.toList) rfl (hyc hp (j:=1) rfl) (fun _ _=>rfl) u8_one (by show (ra.l.length+y.breach.toList.length)*1≤_;omega) (by show ra.l.length+y.breach.toList.length≤_;simp only [maxLen];omega) ?_);clear hp;intro A3 c3 w hp;dsimp only [List.set] at hp)|((refine gen_bs rfl hp el_u4 u4L (([y.height,y.mined]:List UInt32)) ((([y.height,y.mined]:List UInt32)).map u4) rfl rfl rfl (fun _ hh=>rfl) (by omega) ?_);clear hp;intro br w hp)))<;>(conv=>whnf)))
  have hrbl:(ra.l++(arrS b9 2 y.breach.toList).l).length=r.l.length+40:=by
   rw [List.length_append,hral]
   show r.l.length+8+y.breach.toList.length=_
   omega
  refine cl_eq (rnums_any (B:=w.heap.size) (B':=w.heap.size) (q:=⟨A3,c3,ra.l++(arrS b9 2 y.breach.toList).l⟩) (l:=⟨some ⟨br,0,none⟩,2, [y.height,y.mined]⟩) (hp.row (j:=1) rfl) (hp.row (j:=0) rfl) (by show 2≤100;omega) (by show (ra.l++(arrS b9 2 y.breach.toList).l).length≤_;omega)) rfl rfl ?_
  rintro e w ⟨rc,hrc,rfl,hm⟩
  replace hp:=hp.add hm
  clear hm
  refine ⟨_,rfl,?_⟩
  have hrcl:rc.l.length=r.l.length+48:=by
   rw [hrc,List.length_append,nums_len]
   show (ra.l++(arrS b9 2 y.breach.toList).l).length+8=_
   omega
  replace hp:=hp.pick (rs':= [_,cel b9 59 y.c.toArray,cel b1 31 x.c.toArray]) [0,3,4] (by decide) rfl
  ((conv=>whnf);repeat' (((with_reducible apply ldn_id);apply ldn_hs hp;(focus repeat' constructor);exact rfl;exact rfl)<;>(conv=>whnf)))
  refine cl_eq (rbytesp_any ((hs.pay y hmem).keep hp.chg hB) (Nat.le_trans hBw hp.chg.size) (hE.jobs.2 y hmem).1) rfl rfl ?_
  rintro e w ⟨rp,hrp,rfl,hm⟩
  replace hp:=hp.add hm
  clear hm
  refine ⟨_,rfl,?_⟩
  refine cl_eq (rpacked_any (hp.row (j:=1) rfl) (hp.row (j:=0) rfl) (by rw [hrp];exact (hE.jobs.2 y hmem).2) (by omega)) rfl rfl ?_
  rintro e w ⟨rn,hrn,rfl,hm⟩
  replace hp:=hp.add hm
  clear hm
  refine ⟨_,rfl,?_⟩
  rw [hrp] at hrn
  ((conv=>whnf);repeat' (((with_reducible apply ar_id);(refine ar_n (i+1) (by omega) (by omega) ?_))<;>(conv=>whnf)))
  exact lp_next (i+1,rn) (by show x.jobs.l.length - (i+1) < x.jobs.l.length - i;omega) (by (repeat' (first|exact trivial|(refine ⟨rfl,?_⟩)))) ⟨by show i+1≤_;omega,by show rn.l=_;rw [hst,hrn,hrc,hra,hr,show jobB y=numsB [y.key.ses,y.key.seq]++y.breach.toList++numsB [y.height,y.mined]++pckB (bytesP y.pay.l) from rfl];simp only [List.append_assoc];rfl,hp.pick [0,4] (by decide) rfl⟩
 rw [List.take_of_length_le hge] at hr
 clear hft hrl
 obtain ⟨r6,rfl⟩:∃y,y=r:=⟨_,rfl⟩
 have hr6:r6.l=headB x++numB x.win.l.length 1++x.win.l.flatMap winB++numB x.ses.l.length 1++x.ses.l.flatMap sesB++numB x.blobs.l.length 2++x.blobs.l.flatMap blobB++numB x.jobs.l.length 2++x.jobs.l.flatMap jobB:=hr
 have hl6:r6.l.length=33+1+(x.win.l.flatMap winB).length+1+(x.ses.l.flatMap sesB).length+2+(x.blobs.l.flatMap blobB).length+2+(x.jobs.l.flatMap jobB).length:=by rw [hr,List.length_append,hP]
 clear hr hP hr5 hl5
 ((conv=>whnf);repeat' ((first|((with_reducible apply br_id);(with_reducible refine br_dec (fun hx=>?_) (fun hx=>?_))<;>(try (exfalso;first|omega|contradiction)))|((with_reducible apply ld_id);apply ld_hs hp;(focus repeat' constructor);exact rfl)|((with_reducible apply gen_id);apply gen_len;exact rfl;exact rfl;assumption))<;>(conv=>whnf)))
 exact ps_val (v':=r6.v) rfl ⟨r6,by rw [hr6];unfold staB;simp only [List.append_assoc],rfl,hp.made1 (j:=0) rfl⟩
theorem rencode_any {B:Nat} {w0:World} {x:Sta} (hs:StaAt B w0 x) (hBw:B≤w0.heap.size) (hf:FewI x) (hlv:∀j∈x.jobs.l, -9223372036854775808≤j.live∧j.live≤9223372036854775807):Calls Tryz.prog 8 #[x.v] w0 fun e w'=>∃r:Sl UInt8,r.l=(encS x).1∧e= .returned (.tuple #[r.v,i64 (encS x).2])∧Made (rowR 5 1 u8L r) w0 w':=by
 have hp:=Hp.start (S:=N0) w0
 have hB:∀b,N0 b→B≤b:=fun _ hh=>hh.elim
 have uy:=Tryz.underlying34
 have hrt:=fun {w:World} (hc:Chg N0 w0 w)=>rright31_any (hs.keep hc hB) hf hlv
 unfold encS
 cases hq:rightS x with
 |false=>
  rw [hq] at hrt
  rw [if_neg (by decide)]
  refine calls_x (args:= [_]) tabOk Tryz.func8 Tryz.ntmps8 Tryz.results8 rfl (Nat.le_of_ble_eq_true rfl) ?_
  ((conv=>whnf);repeat' ((first|((with_reducible apply br_id);first|with_reducible refine br_f ?_|with_reducible refine br_not ?_)|((with_reducible apply ldn_id);apply lda_hs hp;(focus repeat' constructor);exact rfl)|((with_reducible apply al_id);refine al_cel hp ?_;clear hp;intro bb w hp)|((with_reducible apply cl_id);(refine cl_eq ((hrt hp.chg)) rfl rfl ?_;rintro e w ⟨rfl,hcc⟩;replace hp:=hp.call0 hcc;refine ⟨_,rfl,?_⟩)))<;>(conv=>whnf)))
  exact ps_val (v':= .tuple #[.slice none 0 0,i64 1]) rfl ⟨Sl.nil,rfl,rfl,(hp.nilRow 5 1 u8L).made1 (j:=0) rfl⟩
 |true=>
  rw [hq] at hrt
  rw [if_pos rfl]
  have hE:=enc_ok hq hf.blobs hf.jobs
  refine calls_x (args:= [_]) tabOk Tryz.func8 Tryz.ntmps8 Tryz.results8 rfl (Nat.le_of_ble_eq_true rfl) ?_
  ((conv=>whnf);repeat' ((first|((with_reducible apply br_id);first|with_reducible refine br_t ?_|with_reducible refine br_not ?_)|((with_reducible apply ldn_id);apply lda_hs hp;(focus repeat' constructor);exact rfl)|((with_reducible apply al_id);refine al_cel hp ?_;clear hp;intro bb w hp)|((with_reducible apply cl_id);(refine cl_eq ((hrt hp.chg)) rfl rfl ?_;rintro e w ⟨rfl,hcc⟩;replace hp:=hp.call0 hcc;refine ⟨_,rfl,?_⟩)))<;>(conv=>whnf)))
  refine cl_eq (rsta_any (hs.keep hp.chg hB) (Nat.le_trans hBw hp.chg.size) hE) rfl rfl ?_
  rintro e w ⟨r,hr,rfl,hm⟩
  replace hp:=hp.add hm
  clear hm
  refine ⟨_,rfl,?_⟩
  by_cases hl:(staB x).length≤60000
  ·rw [if_pos hl]
   have hrl:r.l.length≤60000:=by rw [hr];exact hl
   ((conv=>whnf);repeat' ((first|((with_reducible apply br_id);(with_reducible refine br_dec (fun hx=>?_) (fun hx=>?_))<;>(try (exfalso;first|omega|contradiction)))|((with_reducible apply gen_id);apply gen_len;exact rfl;exact rfl;assumption))<;>(conv=>whnf)))
   exact ps_val (v':= .tuple #[r.v,i64 0]) rfl ⟨r,hr,rfl,hp.made1 (j:=0) rfl⟩
  ·rw [if_neg hl]
   have hrl:60000 < r.l.length:=by rw [hr];omega
   ((conv=>whnf);repeat' ((first|((with_reducible apply br_id);(with_reducible refine br_dec (fun hx=>?_) (fun hx=>?_))<;>(try (exfalso;first|omega|contradiction)))|((with_reducible apply gen_id);apply gen_len;exact rfl;exact rfl;assumption))<;>(conv=>whnf)))
   exact ps_val (v':= .tuple #[.slice none 0 0,i64 3]) rfl ⟨Sl.nil,rfl,rfl,(hp.nilRow 5 1 u8L).made1 (j:=0) rfl⟩
end Go.Proofs.YtpbapnlnheahnaaGreatDoor
