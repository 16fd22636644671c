/- MPlanQuiet11: Sha3, Prt, Pay, Respond, Plan1, Eq, Due, Str, Met, Flt. -/
import Derived.Test.YteabebmlclgakaaGreatMPlanQuiet10
import Derived.Test.YteabebmlclgakaaGreatMPlanQuiet6
import Derived.Test.YteabebmlclgakaaGreatMPlanQuiet8
import Derived.Test.YteabebmlclgakaaGreatMPlanQuiet9
import Derived.Test.YteabebmlclgakaaGreatMPlanQuiet4
import Derived.Test.YteabebmlclgakaaGreatMPlanQuietsSlice
set_option linter.unusedSimpArgs false
set_option linter.unusedVariables false
/- Sha3: the end of a hash, its copy, its sum. -/
namespace Go.Proofs.YteabebmlclgakaaGreat
open Go.RowKit
set_option maxRecDepth 100000
set_option maxHeartbeats 2000000
theorem end_any {w0:World} {b:Nat} {m:List UInt8} {r:Sl UInt8} (h:(star (hashRs b m r)).ok w0) (hr:r.l=restS m) (hm:m.length≤1000000):Calls Tryz.prog 281 #[ptr b] w0 fun e w'=>∃q:Sl UInt8,q.l=endS m.length∧e= .returned q.v∧Made (rowR 5 1 u8L q) w0 w':=by
 have hp:=Hp.start (S:=N0) w0
 have u1:=Tryz.underlying38
 have hrl:r.l.length=m.length % 64:=by rw [hr,restS_len]
 have hk:padK m.length < 64:=by unfold padK;omega
 have hb:=cel_ok.1 (((star_ok (rs:=hashRs b m r)).1 h).1 (cel b 360 (hashC m r).toArray) (by simp [hashRs]))
 have c8:w0.cell? ⟨b,8,none⟩=some r.v:=cell_of_heap hb rfl
 have c9:w0.cell? ⟨b,9,none⟩=some (.int .u64 (m.length:Int)):=cell_of_heap hb rfl
 refine calls_x (args:= [_]) tabOk Tryz.func281 Tryz.ntmps281 Tryz.results281 rfl (Nat.le_of_ble_eq_true rfl) ?_
 ((conv=>whnf);repeat' (((with_reducible refine gen_id ?_);((refine gen_bs rfl hp el_u8 u8L (([128]:List UInt8)) ((([128]:List UInt8)).map u8) rfl rfl rfl (fun _ hh=>rfl) (by omega) ?_);clear hp;intro br w hp))<;>(conv=>whnf)))
 refine lp_inv (α:=Nat×Sl UInt8) (fun a=> [(0,ptr b),(3,a.2.v)]) (fun a w=>a.1≤padK m.length∧a.2.l=128::List.replicate a.1 0∧Hp N0 w0 w [rowR 5 1 u8L a.2]) (fun a=>padK m.length - a.1) (0,⟨some ⟨br,0,none⟩,1, [128]⟩) (by (repeat' (first|exact trivial|(refine ⟨rfl,?_⟩)))) ⟨by omega,rfl,hp⟩ ?_
 clear hp
 rintro ⟨k,q⟩ e0 w ⟨hkl,hq,hp⟩
 dsimp only at hkl hq hp ⊢
 have hql:q.l.length=1+k:=by rw [hq];simp;omega
 have hmod:=tmod_n (r.l.length+q.l.length+8) 64
 have hcast:((r.l.length:Int)+(q.l.length:Int)+8)=((r.l.length+q.l.length+8:Nat):Int):=by omega
 have c8':=hp.chg.cell0 c8
 have c9':=hp.chg.cell0 c9
 rcases Nat.lt_or_ge k (padK m.length) with hlt|hge
 ·have hne:(r.l.length+q.l.length+8) % 64≠0:=by unfold padK at hlt;omega
  ((conv=>whnf);repeat' ((first|((with_reducible refine br_id ?_);((refine br_1 (by rw [hcast,show (64:Int)=((64:Nat):Int) from rfl,hmod];simp only [bne_iff_ne];omega) ?_)))|((with_reducible refine ar_id ?_);(refine ar_i64 (by omega) ?_))|((with_reducible refine cn_id ?_);(refine cn (by omega) ?_))|((with_reducible refine ld_id ?_);((refine ld_of c8' ?_)))|((with_reducible refine gen_id ?_);first|((refine gen_bs rfl hp el_u8 u8L (([0]:List UInt8)) ((([0]:List UInt8)).map u8) rfl rfl rfl (fun _ hh=>rfl) (by omega) ?_);clear hp;intro br w hp)|((refine gen_app (s:=q) rfl hp 1 rfl el_u8 rfl ⟨some ⟨br,0,none⟩,1,([0]:List UInt8)⟩ rfl (hp.row (j:=0) rfl) (fun _ _=>rfl) u8_one (by simp only [List.length_cons,List.length_nil];omega) (by simp only [maxLen,List.length_cons,List.length_nil];omega) ?_);clear hp;intro A2 c2 w hp;dsimp only [List.set] at hp)|(apply gen_len;exact rfl;exact rfl;assumption)))<;>(conv=>whnf)))
  refine lp_next (k+1,⟨A2,c2,q.l++ [0]⟩) ?_ (by (repeat' (first|exact trivial|(refine ⟨rfl,?_⟩)))) ⟨by show k+1≤_;omega,by show q.l++ [0]=_;rw [hq,List.cons_append,←List.replicate_succ'],hp.sub (List.sublist_cons_self _ _)⟩
  show padK m.length - (k+1) < padK m.length - k
  omega
 ·obtain rfl:k=padK m.length:=by omega
  have he:(r.l.length+q.l.length+8) % 64=0:=by unfold padK at hql;omega
  ((conv=>whnf);repeat' ((first|((with_reducible refine br_id ?_);((refine br_0 (by rw [hcast,show (64:Int)=((64:Nat):Int) from rfl,hmod,he];rfl) ?_)))|((with_reducible refine ar_id ?_);first|((refine ar_u4 (8*m.length / 2 ^ 32) rfl ?_))|((refine ar_u4 (8*m.length) rfl ?_))|(refine ar_i64 (by omega) ?_)|(refine ar_u64 (by omega) ?_))|((with_reducible refine cn_id ?_);(refine cn (by omega) ?_))|((with_reducible refine ld_id ?_);first|((refine ld_of c8' ?_))|((refine ld_of c9' ?_)))|((with_reducible refine gen_id ?_);first|((refine gen_shr64 rfl (8*m.length) 32 rfl rfl rfl (by omega) ?_))|((refine gen_bs rfl hp el_u4 u4L ([UInt32.ofNat (8*m.length / 2 ^ 32),UInt32.ofNat (8*m.length)]) (([UInt32.ofNat (8*m.length / 2 ^ 32),UInt32.ofNat (8*m.length)]).map u4) rfl rfl rfl (fun _ hh=>rfl) (by omega) ?_);clear hp;intro br w hp)|(apply gen_len;exact rfl;exact rfl;assumption)))<;>(conv=>whnf)))
  refine cl_of (bytes_any (s:=⟨some ⟨br,0,none⟩,2, [UInt32.ofNat (8*m.length / 2 ^ 32),UInt32.ofNat (8*m.length)]⟩) (hp.row (j:=0) rfl) (Nat.le_of_ble_eq_true rfl)) ?_
  rintro e w ⟨x,hx,rfl,hmd⟩
  replace hp:=hp.add hmd
  clear hmd
  refine ⟨_,rfl,?_⟩
  have hxl:x.l.length=8:=by rw [hx,bytesOf_len];rfl
  ((conv=>whnf);repeat' (((with_reducible refine gen_id ?_);((refine gen_app (s:=q) rfl hp 2 rfl el_u8 rfl (x) rfl ((hp.row (j:=0) rfl)) (fun _ _=>rfl) u8_one (by (try simp only [List.length_append,List.length_cons,List.length_nil,List.length_map,List.length_replicate,maxLen]);omega) (by (try simp only [List.length_append,List.length_cons,List.length_nil,List.length_map,List.length_replicate,maxLen]);omega) ?_);clear hp;intro A2 c2 w hp;dsimp only [List.set] at hp))<;>(conv=>whnf)))
  refine ps_val (v':=(Sl.mk A2 c2 (q.l++x.l)).v) rfl ⟨⟨A2,c2,q.l++x.l⟩,?_,rfl,hp.made1 (j:=2) rfl⟩
  show q.l++x.l=_
  rw [hq,hx,be8_of _ (by omega),endS,Nat.mod_eq_of_lt (by omega:8*m.length < 2 ^ 64)]
  rfl
theorem clone_any {w0:World} {b:Nat} {m:List UInt8} {r:Sl UInt8} (h:(star (hashRs b m r)).ok w0) (hr:r.l=restS m):Calls Tryz.prog 280 #[ptr b] w0 fun e w'=>∃b' r',r'.l=r.l∧e= .returned (ptr b')∧Made (star (hashRs b' m r')) w0 w':=by
 have hp:=Hp.start (S:=N0) w0
 have hrl:r.l.length=m.length % 64:=by rw [hr,restS_len]
 have hb:=cel_ok.1 (((star_ok (rs:=hashRs b m r)).1 h).1 (cel b 360 (hashC m r).toArray) (by simp [hashRs]))
 have hrow:=rowR_at (((star_ok (rs:=hashRs b m r)).1 h).1 (rowR 5 1 u8L r) (by simp [hashRs]))
 have c8:w0.cell? ⟨b,8,none⟩=some r.v:=cell_of_heap hb rfl
 refine calls_x (args:= [_]) tabOk Tryz.func280 Tryz.ntmps280 Tryz.results280 rfl (Nat.le_of_ble_eq_true rfl) ?_
 ((conv=>whnf);repeat' ((first|((with_reducible refine br_id ?_);(with_reducible refine br_f ?_))|((with_reducible refine cn_id ?_);(refine cn rfl ?_))|((with_reducible refine ld_id ?_);((refine ld_of (hp.chg.cell0 c8) ?_)))|((with_reducible refine ldn_id ?_);((refine ldn_of (cs:=hashC m r) rfl (fun i v hv=>by rw [add_plain,Nat.zero_add];exact hp.chg.cell0 (cell_of_heap hb (by simpa using hv))) ?_)))|((with_reducible refine al_id ?_);(refine al_cel hp ?_;clear hp;intro bb w hp))|((with_reducible refine st_id ?_);first|(apply sta_hs hp;(focus repeat' constructor);exact rfl;exact rfl;clear hp;intro w hp;(try dsimp only [List.set] at hp))|(apply st_hs hp;(focus repeat' constructor);exact rfl;exact rfl;clear hp;intro w hp;(try dsimp only [List.set] at hp)))|((with_reducible refine gen_id ?_);((refine gen_app0 rfl hp el_u8 rfl (r) rfl ((hrow.keep hp.chg fun _ hh=>hh.elim)) (fun _ _=>rfl) u8_one (by (try simp only [List.length_append,List.length_cons,List.length_nil,List.length_map,List.length_replicate,maxLen]);omega) (by (try simp only [List.length_append,List.length_cons,List.length_nil,List.length_map,List.length_replicate,maxLen]);omega) ?_);clear hp;intro A2 c2 w hcc hp)))<;>(conv=>whnf)))
 exact ps_of ⟨bb,⟨A2,c2,r.l⟩,rfl,rfl,(hp.perm (.swap ..)).made (.refl _)⟩
theorem hsum_any {w0:World} {b:Nat} {m:List UInt8} {r:Sl UInt8} (h:(star (hashRs b m r)).ok w0) (hr:r.l=restS m) (hm:m.length≤900000):Calls Tryz.prog 271 #[ptr b] w0 fun e w'=>e= .returned (shaV m).v∧Chg N0 w0 w':=by
 have hp:=Hp.start (S:=N0) w0
 refine calls_x (args:= [_]) tabOk Tryz.func271 Tryz.ntmps271 Tryz.results271 rfl (Nat.le_of_ble_eq_true rfl) ?_
 ((conv=>whnf);repeat' (((with_reducible refine al_id ?_);(refine al_cel hp ?_;clear hp;intro bb w hp))<;>(conv=>whnf)))
 refine cl_of (clone_any ((star (hashRs b m r)).keep0 h hp.chg) hr) ?_
 rintro e w ⟨b',r',hr',rfl,hmd⟩
 replace hp:=hp.add hmd
 clear hmd
 refine ⟨_,rfl,?_⟩
 ((conv=>whnf);repeat' (((with_reducible refine br_id ?_);(with_reducible refine br_f ?_))<;>(conv=>whnf)))
 refine cl_of (end_any (hp.get (j:=0) rfl) (hr'.trans hr) (by omega)) ?_
 rintro e w ⟨q,hq,rfl,hmd⟩
 replace hp:=hp.add hmd
 clear hmd
 refine ⟨_,rfl,?_⟩
 have hql:q.l.length≤200:=by
  rw [hq]
  simp only [endS,be8,List.length_append,List.length_cons,List.length_replicate,List.length_nil,padK]
  omega
 have hsep:q.l≠ []→∀k o,q.A=some ⟨k,o,none⟩→¬(star (hashRs b' m r')).dom k:=fun _ k o hA=>(List.pairwise_cons.1 hp.sep).1 (star (hashRs b' m r')) (by simp) k (rowR_dom.2 (by simp [Sl.v,Value.ownBlock,hA]))
 ((conv=>whnf);repeat' ((first|((with_reducible refine br_id ?_);first|(with_reducible refine br_t ?_)|(with_reducible refine br_f ?_)|(with_reducible refine br_not ?_)|((with_reducible refine br_dec (fun hx=>?_) (fun hx=>?_))<;>(try (exfalso;first|omega|exact absurd hx ‹_› |exact absurd ‹_› hx)))|((with_reducible refine br_eq (fun hx=>?_) (fun hx=>?_))<;>(try (exfalso;first|omega|exact absurd hx ‹_› |exact absurd ‹_› hx)))|((with_reducible refine br_ne (fun hx=>?_) (fun hx=>?_))<;>(try (exfalso;first|omega|exact absurd hx ‹_› |exact absurd ‹_› hx)))|((with_reducible refine br_s (fun hx=>?_) (fun hx=>?_))<;>(try (exfalso;first|omega|exact absurd hx ‹_› |exact absurd ‹_› hx))))|((with_reducible refine ar_id ?_);first|(refine ar_i64 (by omega) ?_)|(refine ar_u32 (by omega) ?_)|(refine ar_u64 (by omega) ?_)|(refine ar_u8 (by omega) ?_))|((with_reducible refine cn_id ?_);first|(refine cn rfl ?_)|(refine cn ‹_› ?_)|(refine cn (by omega) ?_)|(refine cn (Chg.refl _ _) ?_))|((with_reducible refine ld_id ?_);first|(apply ld_hs hp;(focus repeat' constructor);exact rfl)|(refine ld_of ‹_› ?_))|((with_reducible refine ldn_id ?_);first|(apply lda_hs hp;(focus repeat' constructor);exact rfl)|(apply ldn_hs hp;(focus repeat' constructor);exact rfl;exact rfl))|((with_reducible refine al_id ?_);(refine al_cel hp ?_;clear hp;intro bb w hp))|((with_reducible refine st_id ?_);first|(apply sta_hs hp;(focus repeat' constructor);exact rfl;exact rfl;clear hp;intro w hp;(try dsimp only [List.set] at hp))|(apply st_hs hp;(focus repeat' constructor);exact rfl;exact rfl;clear hp;intro w hp;(try dsimp only [List.set] at hp)))|((with_reducible refine gen_id ?_);first|(apply gen_build;exact rfl;exact rfl)|(apply gen_len;exact rfl;exact rfl;assumption)|(apply gen_min;exact rfl;exact rfl;exact rfl)|(apply gen_max;exact rfl;exact rfl;exact rfl)|(apply gen_ix;exact rfl;exact rfl;exact rfl;exact rfl;omega)|(apply gen_ixa;exact rfl;exact rfl;exact rfl;exact rfl;omega))|((with_reducible refine dr_id ?_);first|(refine dr_auto tabOk (by kernel_rfl) (by decide+kernel) ?_;(try replace hp:=hp.drew))|(refine dr_autog tabOk (by kernel_rfl) (by decide+kernel) ?_;(try replace hp:=hp.drew))|(refine dr_autot tabOk (by kernel_rfl) (by decide+kernel) ?_;(try replace hp:=hp.drew)))|((with_reducible refine fk_id ?_);(refine fk_mk ?_ ?_))|((with_reducible refine rd_id ?_);first|(apply rd_len;exact rfl;exact rfl;assumption)|(apply rd_ix;exact rfl;exact rfl;exact rfl;exact rfl;omega)))<;>(conv=>whnf)))
 refine cl_of (write_any (hp.get (j:=1) rfl) (hr'.trans hr) (by omega) (hp.row (j:=0) rfl) (by omega) hsep) ?_
 rintro e w ⟨r2,hr2,rfl,hmd⟩
 replace hp:=hp.via (j:=1) rfl hmd
 dsimp only [List.set] at hp
 clear hmd hsep
 refine ⟨_,rfl,?_⟩
 replace hp:=(hp.perm (.swap ..)).unfold
 dsimp only [List.cons_append,List.nil_append] at hp
 obtain ⟨S2,hS2⟩:∃S2,doneS (m++q.l)=S2:=⟨_,rfl⟩
 ((conv=>whnf);repeat' ((first|((with_reducible refine dr_id ?_);(refine dr_autog tabOk (by kernel_rfl) (by decide+kernel) ?_;(try replace hp:=hp.drew)))|((with_reducible refine rd_id ?_);first|((refine rd_arr rfl Tryz.underlying44 rfl rfl (List.replicate 32 (0:UInt8)) rfl ?_))|((refine rd_arr rfl Tryz.underlying357 rfl rfl (doneS (m++q.l)).l rfl ?_))))<;>(conv=>whnf)))
 have hsl:=cel_slat (enc:=u4L) (sz:=1) (ofs:=0) (l:=(doneS (m++q.l)).l) hp (j:=0) rfl (fun _ _=>rfl) rfl (Nat.le_of_ble_eq_true rfl)
 refine cl_of (bytes_any (s:=arrS b' 0 (doneS (m++q.l)).l) hsl (Nat.le_of_ble_eq_true rfl)) ?_
 rintro e w ⟨x,hx,rfl,hmd⟩
 replace hp:=hp.add hmd
 have hcc:=hmd.chg
 clear hmd hsl
 refine ⟨_,rfl,?_⟩
 have hX:x.l=shaL m:=by rw [hx,sha_of,←hq];rfl
 have hXl:x.l.length=32:=by rw [hX,shaL_len]
 ((conv=>whnf);repeat' ((first|((with_reducible refine cn_id ?_);(refine cn ‹_› ?_))|((with_reducible refine gen_id ?_);((refine gen_copy rfl hp 4 rfl el_u8 rfl x rfl (hp.row (j:=0) rfl) (fun hh=>by rw [hh] at hXl;cases hXl) (fun _ _=>rfl) u8_one (n:=32) (by rw [hXl];rfl) (by decide) ?_);clear hp;intro w hp;dsimp only [List.set] at hp)))<;>(conv=>whnf)))
 have hcs:(List.take 0 (rep 32 i_u8).cells.toList++List.flatMap u8L (List.take 32 x.l)++List.drop (0+32) (rep 32 i_u8).cells.toList).toArray=(idOf x.l hXl).c.toArray:=by
  rw [List.take_of_length_le (l:=x.l) (by omega),flat_one,←idOf_c]
  simp only [arC,List.take_zero,List.nil_append]
  congr 1
  exact List.append_nil _
 rw [hcs] at hp
 clear hcs
 obtain ⟨X,hXX⟩:∃X,idOf x.l hXl=X:=⟨_,rfl⟩
 have hXV:X=shaV m:=by rw [←hXX];unfold shaV;congr 1
 rw [hXX] at hp
 ((conv=>whnf);repeat' ((first|((with_reducible refine cn_id ?_);(refine cn rfl ?_))|((with_reducible refine ldn_id ?_);(apply lda_hs hp;(focus repeat' constructor);exact rfl))|((with_reducible refine st_id ?_);(apply sta_hs hp;(focus repeat' constructor);exact rfl;exact rfl;clear hp;intro w hp;(try dsimp only [List.set] at hp))))<;>(conv=>whnf)))
 exact ps_val (v':=X.v) rfl ⟨by rw [hXV],hp.chg⟩
abbrev prtL (s:Sl UInt8):List Value:= [s.v]
theorem ssum_any {B:Nat} {w0:World} {ps:Sl (Sl UInt8)} (h:SlAt B w0 prtL 1 ps) (hBw:B≤w0.heap.size) (hps:∀s∈ps.l,SlAt B w0 u8L 1 s) (hn:(ps.l.flatMap (·.l)).length≤900000):Calls Tryz.prog 248 #[ps.v] w0 fun e w'=>e= .returned (shaV (ps.l.flatMap (·.l))).v∧Chg N0 w0 w':=by
 have hp:=Hp.start (S:=N0) w0
 have hB:∀b,N0 b→B≤b:=fun _ hh=>hh.elim
 have u1:=Tryz.underlying319
 have hmax:ps.l.length≤9223372036854775807:=by have:=h.le;have:=h.max;simp only [maxLen] at this;omega
 refine calls_x (args:= [_]) tabOk Tryz.func248 Tryz.ntmps248 Tryz.results248 rfl (Nat.le_of_ble_eq_true rfl) ?_
 ((conv=>whnf);repeat' (((with_reducible refine al_id ?_);(refine al_cel hp ?_;clear hp;intro bb w hp))<;>(conv=>whnf)))
 refine cl_of new_any ?_
 rintro e w ⟨b,rfl,hmd⟩
 replace hp:=hp.add hmd
 clear hmd
 refine ⟨_,rfl,?_⟩
 obtain ⟨b2,hb2⟩:∃b2,b2=bb:=⟨_,rfl⟩
 subst hb2
 ((conv=>whnf);repeat' (((with_reducible refine gen_id ?_);(apply gen_len;exact rfl;exact rfl;assumption))<;>(conv=>whnf)))
 refine lp_inv (α:=Nat×Sl UInt8) (fun a=> [(2,ptr b2),(3,ptr b),(7,ps.v),(8,i64 ps.l.length),(9,i64 a.1)]) (fun a w=>a.1≤ps.l.length∧a.2.l=restS ((ps.l.take a.1).flatMap (·.l))∧Hp N0 w0 w [star (hashRs b ((ps.l.take a.1).flatMap (·.l)) a.2),cel b2 44 (rep 32 i_u8).cells]) (fun a=>ps.l.length - a.1) (0,Sl.nil) (by (repeat' (first|exact trivial|(refine ⟨rfl,?_⟩)))) ⟨by omega,by simp only [List.take_zero,List.flatMap_nil];rfl,by simp only [List.take_zero,List.flatMap_nil];exact hp⟩ ?_
 clear hp
 rintro ⟨i,r⟩ e0 w ⟨hi,hr,hp⟩
 dsimp only at hi hr hp ⊢
 have hlen:((ps.l.take i).flatMap (·.l)).length≤900000:=by
  have h1:((ps.l.take i).flatMap (·.l))++((ps.l.drop i).flatMap (·.l))=ps.l.flatMap (·.l):=by rw [←List.flatMap_append,List.take_append_drop]
  have h2:=congrArg List.length h1
  rw [List.length_append] at h2
  omega
 rcases Nat.lt_or_ge i ps.l.length with hlt|hge
 ·obtain ⟨bb,o,x,hA,hb,hrow,hxx⟩:=h.has hlt
  have hmem:=List.mem_of_getElem? hxx
  have hxl:x.l.length≤900000:=by
   have h1:((ps.l.take i).flatMap (·.l))++((ps.l.drop i).flatMap (·.l))=ps.l.flatMap (·.l):=by rw [←List.flatMap_append,List.take_append_drop]
   rw [List.getElem?_eq_getElem hlt] at hxx
   have h3:=Option.some.inj hxx
   rw [List.drop_eq_getElem_cons hlt,List.flatMap_cons,h3] at h1
   have h2:=congrArg List.length h1
   rw [List.length_append,List.length_append] at h2
   omega
  have hxa:=hps x hmem
  ((conv=>whnf);repeat' ((first|((with_reducible refine br_id ?_);((with_reducible refine br_dec (fun hx=>?_) (fun hx=>?_))<;>(try (exfalso;first|omega|exact absurd hx ‹_› |exact absurd ‹_› hx))))|((with_reducible refine ld_id ?_);((refine ld_row0 hp hB ‹_› ‹_› _ rfl ‹_› (by rfl) ?_)))|((with_reducible refine gen_id ?_);((refine gen_ixs rfl rfl ‹_› rfl rfl (by omega) ?_))))<;>(conv=>whnf)))
  refine cl_of (write_any (hp.get (j:=0) rfl) hr (by omega) (hxa.keep hp.chg hB) (by omega) (fun hne k o hk hd=>?_)) ?_
  ·have h1:=(hp.own _ (by simp) k hd).resolve_left (fun hh=>hh)
   obtain ⟨b',o',h4,h5,_⟩:=hxa.row hne
   rw [hk] at h4
   cases h4
   omega
  ·rintro e w ⟨r2,hr2,rfl,hmd⟩
   replace hp:=hp.via (j:=0) rfl hmd
   dsimp only [List.set] at hp
   clear hmd
   refine ⟨_,rfl,?_⟩
   have htk:(ps.l.take (i+1)).flatMap (·.l)=(ps.l.take i).flatMap (·.l)++x.l:=by
    rw [List.take_add_one,hxx,List.flatMap_append]
    simp
   ((conv=>whnf);repeat' (((with_reducible refine ar_id ?_);(refine ar_i64 (by omega) ?_))<;>(conv=>whnf)))
   refine lp_next (i+1,r2) ?_ (by (repeat' (first|exact trivial|(refine ⟨rfl,?_⟩)))) ⟨by show i+1≤_;omega,by show r2.l=restS ((ps.l.take (i+1)).flatMap (·.l));rw [htk,hr2],?_⟩
   ·show ps.l.length - (i+1) < ps.l.length - i;omega
   ·show Hp N0 w0 w [star (hashRs b ((ps.l.take (i+1)).flatMap (·.l)) r2),_]
    rw [htk]
    exact hp
 ·rw [List.take_of_length_le hge] at hr hp hlen
  ((conv=>whnf);repeat' (((with_reducible refine br_id ?_);((with_reducible refine br_dec (fun hx=>?_) (fun hx=>?_))<;>(try (exfalso;first|omega|exact absurd hx ‹_› |exact absurd ‹_› hx))))<;>(conv=>whnf)))
  refine cl_of (hsum_any (hp.get (j:=0) rfl) hr hlen) ?_
  rintro e w ⟨rfl,hc⟩
  replace hp:=hp.call0 hc
  refine ⟨_,rfl,?_⟩
  obtain ⟨X,hX⟩:∃X,shaV (ps.l.flatMap (·.l))=X:=⟨_,rfl⟩
  rw [hX]
  ((conv=>whnf);repeat' ((first|((with_reducible refine cn_id ?_);(refine cn rfl ?_))|((with_reducible refine ldn_id ?_);(apply lda_hs hp;(focus repeat' constructor);exact rfl))|((with_reducible refine st_id ?_);(apply sta_hs hp;(focus repeat' constructor);exact rfl;exact rfl;clear hp;intro w hp;(try dsimp only [List.set] at hp))))<;>(conv=>whnf)))
  exact ps_val (v':=X.v) rfl ⟨rfl,hp.chg⟩
end Go.Proofs.YteabebmlclgakaaGreat
/- Prt: rows of byte slices. No condition. -/
namespace Go.Proofs.YteabebmlclgakaaGreat
open Go.RowKit
set_option maxRecDepth 100000
set_option maxHeartbeats 2000000
theorem el_prt:ElT Tryz.prog 319 38 1 24:=elt_of (z:= .slice none 0 0) Tryz.underlying319 (by kernel_rfl) rfl (by omega)
end Go.Proofs.YteabebmlclgakaaGreat
/- Pay: payloads: ids, places, whether two are the same, copies. -/
namespace Go.Proofs.YteabebmlclgakaaGreat
open Go.RowKit
set_option maxRecDepth 100000
set_option maxHeartbeats 2000000
theorem txid_any {B:Nat} {w0:World} {s:Sl UInt8} (h:SlAt B w0 u8L 1 s) (hBw:B≤w0.heap.size) (hn:s.l.length≤900000):Calls Tryz.prog 225 #[s.v] w0 fun e w'=>e= .returned (shaV s.l).v∧Chg N0 w0 w':=by
 have hp:=Hp.start (S:=N0) w0
 have hB:∀b,N0 b→B≤b:=fun _ hh=>hh.elim
 obtain ⟨X,hX⟩:∃X,shaV s.l=X:=⟨_,rfl⟩
 refine calls_x (args:= [_]) tabOk Tryz.func225 Tryz.ntmps225 Tryz.results225 rfl (Nat.le_of_ble_eq_true rfl) ?_
 ((conv=>whnf);repeat' ((first|((with_reducible refine al_id ?_);(refine al_cel hp ?_;clear hp;intro bb w hp))|((with_reducible refine gen_id ?_);((refine gen_bs rfl hp el_prt prtL [s] [s.v] rfl rfl rfl (fun _ hh=>by simp at hh;subst hh;rfl) (by omega) ?_);clear hp;intro br w hp)))<;>(conv=>whnf)))
 refine cl_of (ssum_any (ps:=⟨some ⟨br,0,none⟩,1, [s]⟩) (hp.row (j:=0) rfl) (Nat.le_refl _) (fun x hx=>?_) (by simpa using hn)) ?_
 ·simp at hx
  subst hx
  exact (h.keep hp.chg hB).more (Nat.le_trans hBw hp.chg.size)
 rintro e w ⟨rfl,hc⟩
 replace hp:=hp.call0 hc
 refine ⟨_,rfl,?_⟩
 rw [show (Sl.mk (some ⟨br,0,none⟩) 1 [s]).l.flatMap (fun x=>x.l)=s.l from List.append_nil _,hX]
 ((conv=>whnf);repeat' ((first|((with_reducible refine cn_id ?_);(refine cn rfl ?_))|((with_reducible refine ldn_id ?_);(apply lda_hs hp;(focus repeat' constructor);exact rfl))|((with_reducible refine st_id ?_);(apply sta_hs hp;(focus repeat' constructor);exact rfl;exact rfl;clear hp;intro w hp;(try dsimp only [List.set] at hp))))<;>(conv=>whnf)))
 exact ps_val (v':=X.v) rfl ⟨rfl,hp.chg⟩
def fewP (p:Payload):Bool:=p.l.all (fun t=>decide (t.tx.l.length≤200)) && decide (p.l.length≤20)
theorem fewP_at {p:Payload} (h:fewP p=true):(∀t∈p.l,t.tx.l.length≤200)∧p.l.length≤20:=by
 unfold fewP at h
 simpa using h
theorem few13_any {B:Nat} {w0:World} {p:Payload} (h:PayAt B w0 p):Calls Tryz.prog 42 #[p.pv] w0 fun e w'=>e= .returned (.bool (fewP p))∧Chg N0 w0 w':=by
 have hp:=Hp.start (S:=N0) w0
 have hB:∀b,N0 b→B≤b:=fun _ hh=>hh.elim
 have u1:=Tryz.underlying45
 have u2:=Tryz.underlying38
 have hmax:p.l.length≤9223372036854775807:=by have:=h.row.le;have:=h.row.max;simp only [maxLen] at this;omega
 refine calls_x (args:= [_]) tabOk Tryz.func42 Tryz.ntmps42 Tryz.results42 rfl (Nat.le_of_ble_eq_true rfl) ?_
 ((conv=>whnf);repeat' (((with_reducible refine al_id ?_);(refine al_cel hp ?_;clear hp;intro bb w hp))<;>(conv=>whnf)))
 refine lp_inv (α:=Nat) (fun i=> [(1,ptr bb),(3,i64 i)]) (fun i w=>i≤p.l.length∧(∀t∈p.l.take i,t.tx.l.length≤200)∧Hp N0 w0 w [cel bb 47 #[p.v]]) (fun i=>p.l.length - i) 0 (by (repeat' (first|exact trivial|(refine ⟨rfl,?_⟩)))) ⟨by omega,by simp,hp⟩ ?_
 clear hp
 rintro i e0 w ⟨hi,hall,hp⟩
 rcases Nat.lt_or_ge i p.l.length with hlt|hge
 ·obtain ⟨b,o,x,hA,hb,hrow,hxx⟩:=h.row.has hlt
  have hmem:=List.mem_of_getElem? hxx
  ((conv=>whnf);repeat' ((first|((with_reducible refine br_id ?_);((with_reducible refine br_dec (fun hx=>?_) (fun hx=>?_))<;>(try (exfalso;first|omega|contradiction))))|((with_reducible refine ar_id ?_);(refine ar_i64 (by omega) ?_))|((with_reducible refine ld_id ?_);first|((refine ld_row hp hB ‹_› ‹_› _ _ rfl ‹_› (by rfl) ?_))|(apply ld_hs hp;(focus repeat' constructor);exact rfl))|((with_reducible refine gen_id ?_);first|((refine gen_ixs rfl rfl ‹_› rfl rfl (by omega) ?_))|(apply gen_len;exact rfl;exact rfl;assumption)))<;>(conv=>whnf)))
  ·refine ps_val (v':= .bool false) rfl ⟨?_,hp.chg⟩
   have h1:fewP p=false:=by
    unfold fewP
    rw [Bool.and_eq_false_iff]
    left
    rw [List.all_eq_false]
    exact ⟨x,hmem,by simp only [decide_eq_true_eq];omega⟩
   rw [h1]
  ·refine lp_next (i+1) (by omega) (by (repeat' (first|exact trivial|(refine ⟨rfl,?_⟩)))) ⟨by omega,fun t ht=>?_,hp⟩
   rw [List.take_add_one,hxx] at ht
   rcases List.mem_append.1 ht with ht|ht
   ·exact hall t ht
   ·simp at ht
    subst ht
    omega
 ·((conv=>whnf);repeat' ((first|((with_reducible refine br_id ?_);((with_reducible refine br_dec (fun hx=>?_) (fun hx=>?_))<;>(try (exfalso;first|omega|contradiction))))|((with_reducible refine ld_id ?_);(apply ld_hs hp;(focus repeat' constructor);exact rfl))|((with_reducible refine gen_id ?_);(apply gen_len;exact rfl;exact rfl;assumption)))<;>(conv=>whnf)))
  refine ps_val (v':= .bool (decide ((p.l.length:Int)≤20))) rfl ⟨?_,hp.chg⟩
  rw [List.take_of_length_le hge] at hall
  have h1:fewP p=decide ((p.l.length:Int)≤20):=by
   unfold fewP
   rw [List.all_eq_true.2 (fun x hx=>decide_eq_true (hall x hx)),Bool.true_and]
   exact decide_eq_decide.2 (by omega)
  rw [h1]
end Go.Proofs.YteabebmlclgakaaGreat
/- Respond: tier.At, respond.Due, and the document's answers. -/
namespace Go.Proofs.YteabebmlclgakaaGreat
open Go.RowKit
set_option maxRecDepth 100000
set_option maxHeartbeats 2000000
theorem few_tx {p:Payload} (h:fewP p=true) {t:Tier} (ht:t∈p.l):t.tx.l.length≤200:=(fewP_at h).1 t ht
theorem u8L_one {l:List UInt8}:∀x∈l,∀u∈u8L x,u.oneCell'=true:=fun x _ u hu=>by
 simp [u8L] at hu
 subst hu
 rfl
def tierAt (breach height:Nat) (step:Int) (many:Nat):Nat:=if height≤breach∨many < 1 then 0 else min ((height - breach) / (max step 1).toNat) (many - 1)
theorem at_any (w0:World) (b h:UInt32) (step:Int) (hs: -9223372036854775808≤step∧step≤9223372036854775807) (many:Nat) (hm:many≤9223372036854775807):
  Calls Tryz.prog 102 #[u32 b,u32 h,i64 step,errno many] w0 fun e w'=>e= .returned (errno (tierAt b.toNat h.toNat step many))∧Chg N0 w0 w':=by
 have hp:=Hp.start (S:=N0) w0
 have hb:b.toNat < 4294967296:=b.toNat_lt
 have hh:h.toNat < 4294967296:=h.toNat_lt
 have hz:h.toNat≤b.toNat∨many < 1→tierAt b.toNat h.toNat step many=0:=fun hc=>by unfold tierAt;rw [if_pos hc]
 have hq:b.toNat < h.toNat→IntKind.u64.wrap ((h.toNat - b.toNat:Int).tdiv (max step 1))=(((h.toNat - b.toNat) / (max step 1).toNat:Nat):Int):=fun h1=>by
  have e1:(h.toNat - b.toNat:Int)=((h.toNat - b.toNat:Nat):Int):=by omega
  obtain ⟨d,hd⟩:∃d:Nat,max step 1=d:=⟨(max step 1).toNat,by omega⟩
  rw [e1,hd,←Int.ofNat_tdiv,Int.toNat_natCast]
  have:=Nat.div_le_self (h.toNat - b.toNat) d
  generalize (h.toNat - b.toNat) / d=q at this ⊢
  exact IntWalk.u64_in _ (by omega)
 have hr:b.toNat < h.toNat→1≤many→tierAt b.toNat h.toNat step many=min ((h.toNat - b.toNat) / (max step 1).toNat) (many - 1):=fun h1 h2=>by unfold tierAt;rw [if_neg (by omega)]
 have hle:=Nat.div_le_self (h.toNat - b.toNat) (max step 1).toNat
 refine calls_x (args:= [_,_,_,_]) tabOk Tryz.func102 Tryz.ntmps102 Tryz.results102 rfl (Nat.le_of_ble_eq_true rfl) ?_
 ((conv=>whnf);repeat' ((first|((with_reducible refine br_id ?_);first|(with_reducible refine br_t ?_)|(with_reducible refine br_f ?_)|((with_reducible refine br_dec (fun hx=>?_) (fun hx=>?_))<;>(try (exfalso;first|omega|contradiction))))|((with_reducible refine ar_id ?_);first|((refine ar_is _ (hq (by omega)) ?_))|(refine ar_i64 (by omega) ?_)|(refine ar_u32 (by omega) ?_)|(refine ar_u64 (by omega) ?_))|((with_reducible refine cn_id ?_);(refine cn (by omega) ?_))|((with_reducible refine gen_id ?_);first|(apply gen_min;exact rfl;exact rfl;exact rfl)|(apply gen_max;exact rfl;exact rfl;exact rfl)))<;>(conv=>whnf)))
 ·rw [hz (by omega)]
  exact ps_val (v':=errno 0) rfl ⟨rfl,hp.chg⟩
 ·rw [hz (by omega)]
  exact ps_val (v':=errno 0) rfl ⟨rfl,hp.chg⟩
 ·rw [hr (by omega) (by omega)]
  generalize (h.toNat - b.toNat) / (max step 1).toNat=q at hle ⊢
  refine ps_val (v':= .int .i64 (min (q:Int) (many - 1))) rfl ⟨?_,hp.chg⟩
  rw [show min (q:Int) (many - 1)=((min q (many - 1):Nat):Int) by omega]
theorem tierAt_lt {b h many:Nat} {step:Int} (h1:1≤many):tierAt b h step many < many:=by
 unfold tierAt
 split
 ·omega
 ·have:=Nat.min_le_right ((h - b) / (max step 1).toNat) (many - 1)
  omega
def dueN (j:Job) (height:UInt32) (step:Int):Option Nat:=
 if j.mined.toNat≠0∨j.pay.l.length=0∨(tierAt j.height.toNat height.toNat step j.pay.l.length:Int)=j.live then none else some (tierAt j.height.toNat height.toNat step j.pay.l.length)
def DuePost (j:Job) (height:UInt32) (step:Int) (w0:World) (e:Ending) (w':World):Prop:=
 (dueN j height step=none∧e= .returned (.tuple #[Sub.z.v, .bool false])∧Chg N0 w0 w')∨
 ∃n t s,dueN j height step=some n∧j.pay.l[n]? =some t∧s.l=t.tx.l∧e= .returned (.tuple #[(Sub.mk j.key j.breach height n s).v, .bool true])∧Made (rowR 5 1 u8L s) w0 w'
theorem due_any {B:Nat} {w0:World} {j:Job} (h:PayAt B w0 j.pay) (hf:fewP j.pay=true) (height:UInt32) (step:Int) (hs: -9223372036854775808≤step∧step≤9223372036854775807):
  Calls Tryz.prog 58 #[j.v,u32 height,i64 step] w0 (DuePost j height step w0):=by
 have hp:=Hp.start (S:=N0) w0
 have hB:∀b,N0 b→B≤b:=fun _ hh=>hh.elim
 have u1:=Tryz.underlying45
 have u2:=Tryz.underlying38
 have hmax:j.pay.l.length≤9223372036854775807:=by have:=h.row.le;have:=h.row.max;simp only [maxLen] at this;omega
 refine calls_x (args:= [_,_,_]) tabOk Tryz.func58 Tryz.ntmps58 Tryz.results58 rfl (Nat.le_of_ble_eq_true rfl) ?_
 ((conv=>whnf);repeat' ((first|((with_reducible refine ld_id ?_);(apply ld_hs hp;(focus repeat' constructor);exact rfl))|((with_reducible refine al_id ?_);(refine al_cel hp ?_;clear hp;intro bb w hp))|((with_reducible refine gen_id ?_);(apply gen_len;exact rfl;exact rfl;assumption)))<;>(conv=>whnf)))
 refine cl_of (at_any _ j.height height step hs j.pay.l.length hmax) ?_
 rintro e w ⟨rfl,hc⟩
 replace hp:=hp.call0 hc
 refine ⟨_,rfl,?_⟩
 obtain ⟨n,hn⟩:∃n,tierAt j.height.toNat height.toNat step j.pay.l.length=n:=⟨_,rfl⟩
 rw [hn]
 ((conv=>whnf);repeat' ((first|((with_reducible refine br_id ?_);first|(with_reducible refine br_t ?_)|(with_reducible refine br_f ?_)|((with_reducible refine br_eq (fun hx=>?_) (fun hx=>?_))<;>(try (exfalso;first|omega|contradiction)))|((with_reducible refine br_ne (fun hx=>?_) (fun hx=>?_))<;>(try (exfalso;first|omega|contradiction))))|((with_reducible refine cn_id ?_);(refine cn rfl ?_))|((with_reducible refine ld_id ?_);(apply ld_hs hp;(focus repeat' constructor);exact rfl))|((with_reducible refine ldn_id ?_);first|(apply lda_hs hp;(focus repeat' constructor);exact rfl)|(apply ldn_hs hp;(focus repeat' constructor);exact rfl;exact rfl))|((with_reducible refine st_id ?_);(apply sta_hs hp;(focus repeat' constructor);exact rfl;exact rfl;clear hp;intro w hp;(try dsimp only [List.set] at hp)))|((with_reducible refine gen_id ?_);(apply gen_build;exact rfl;exact rfl))|((with_reducible refine dr_id ?_);(refine dr_autog tabOk (by kernel_rfl) (by decide+kernel) ?_;(try replace hp:=hp.drew))))<;>(conv=>whnf)))
 ·exact ps_val (v':= .tuple #[Sub.z.v, .bool false]) (by kernel_rfl) (.inl ⟨by unfold dueN;rw [if_pos (by omega)],rfl,hp.chg⟩)
 ·exact ps_val (v':= .tuple #[Sub.z.v, .bool false]) (by kernel_rfl) (.inl ⟨by unfold dueN;rw [if_pos (by omega)],rfl,hp.chg⟩)
 ·exact ps_val (v':= .tuple #[Sub.z.v, .bool false]) (by kernel_rfl) (.inl ⟨by unfold dueN;rw [if_pos (by omega)],rfl,hp.chg⟩)
 have hlt:n < j.pay.l.length:=by rw [←hn];exact tierAt_lt (by omega)
 obtain ⟨b,o,x,hA,hb,hrow,hxx⟩:=h.row.has hlt
 have htx:=h.tx x (List.mem_of_getElem? hxx)
 have hfew:=few_tx hf (List.mem_of_getElem? hxx)
 ((conv=>whnf);repeat' ((first|((with_reducible refine cn_id ?_);first|(refine cn rfl ?_)|(refine cn ‹_› ?_))|((with_reducible refine ld_id ?_);((refine ld_row hp hB ‹_› ‹_› _ _ rfl ‹_› (by rfl) ?_)))|((with_reducible refine ldn_id ?_);(apply lda_hs hp;(focus repeat' constructor);exact rfl))|((with_reducible refine st_id ?_);(apply sta_hs hp;(focus repeat' constructor);exact rfl;exact rfl;clear hp;intro w hp;(try dsimp only [List.set] at hp)))|((with_reducible refine gen_id ?_);first|((refine gen_app0 rfl hp el_u8 rfl x.tx rfl (htx.keep hp.chg hB) (fun _ _=>rfl) u8L_one (by omega) (by simp only [maxLen];omega) ?_);clear hp;intro A' c' w hg hp)|((refine gen_build (t:=69) (out:=(Sub.mk j.key j.breach height n ⟨A',c',x.tx.l⟩).c) rfl (by kernel_rfl) ?_)))|((with_reducible refine rd_id ?_);((refine rd_ixs rfl rfl ‹_› rfl rfl (by omega) ?_))))<;>(conv=>whnf)))
 refine ps_val (v':= .tuple #[(Sub.mk j.key j.breach height n ⟨A',c',x.tx.l⟩).v, .bool true]) rfl (.inr ⟨n,x,⟨A',c',x.tx.l⟩,?_,hxx,rfl,rfl,hp.made1 (j:=0) rfl⟩)
 unfold dueN
 rw [if_neg (by omega),hn]
end Go.Proofs.YteabebmlclgakaaGreat
/- Plan1: package tier: the next change of tiers; package plan: steps compared. Of at most a thousand million tiers. -/
namespace Go.Proofs.YteabebmlclgakaaGreat
open Go.RowKit
set_option maxRecDepth 100000
set_option maxHeartbeats 4000000
def nextT (b h:Nat) (step:Int) (many:Nat):Option Nat:=
 if many < 1∨many≤tierAt b h step many+1∨4294967295 < max step 1 then none
 else if 4294967295 < b+(max step 1).toNat*(tierAt b h step many+1) then none
 else some (b+(max step 1).toNat*(tierAt b h step many+1))
def nextO (o:Option Nat):Value:=match o with
 |none=>.tuple #[.int .u32 0, .bool false]
 |some m=>.tuple #[.int .u32 m, .bool true]
theorem tnext_any (w0:World) (b h:UInt32) (step:Int) (hs: -9223372036854775808≤step∧step≤9223372036854775807) (many:Nat) (hm:many≤1000000000):
  Calls Tryz.prog 209 #[u32 b,u32 h,i64 step,errno many] w0 fun e w'=>e= .returned (nextO (nextT b.toNat h.toNat step many))∧Chg N0 w0 w':=by
 have hp:=Hp.start (S:=N0) w0
 have hb:b.toNat < 4294967296:=b.toNat_lt
 have hh:h.toNat < 4294967296:=h.toNat_lt
 have hat:=fun w=>at_any w b h step hs many (by omega)
 have hX:∀n,tierAt b.toNat h.toNat step many=n→nextT b.toNat h.toNat step many=if many < 1∨many≤n+1∨4294967295 < max step 1 then none else if 4294967295 < b.toNat+(max step 1).toNat*(n+1) then none else some (b.toNat+(max step 1).toNat*(n+1)):=fun n hn=>by unfold nextT;rw [hn]
 obtain ⟨n,hn⟩:∃n,tierAt b.toNat h.toNat step many=n:=⟨_,rfl⟩
 have hX:=hX n hn
 have hnm:n≤1000000000:=by rw [←hn];unfold tierAt;split<;>omega
 rw [hn] at hat
 clear hn
 obtain ⟨d,hd⟩:∃d:Nat,max step 1=d:=⟨(max step 1).toNat,by omega⟩
 rw [hd,Int.toNat_natCast] at hX
 have hd9:d≤9223372036854775807:=by omega
 have hd1:1≤d:=by omega
 obtain ⟨M,hM⟩:∃M,d*(n+1)=M:=⟨_,rfl⟩
 rw [hM] at hX
 have hMb:d≤4294967295→M≤4294967295*1000000001:=fun h1=>by rw [←hM];exact Nat.mul_le_mul h1 (by omega)
 have hMi:(d:Int)*((n:Int)+1)=(M:Int):=by rw [←hM,Int.natCast_mul];rfl
 have ar_d:∀{f:Int→Prop},f (d:Int)→Ar .u64 (max step 1) f:=fun {f} hf=>ar_u64 (by omega) (by rw [hd];exact hf)
 have ar_m:∀{f:Int→Prop},d≤4294967295→f (M:Int)→Ar .u64 ((d:Int)*((n:Int)+1)) f:=fun {f} h1 hf=>ar_u64 (by have:=hMb h1;omega) (by rw [hMi];exact hf)
 rw [hX]
 clear hX
 refine calls_x (args:= [_,_,_,_]) tabOk Tryz.func209 Tryz.ntmps209 Tryz.results209 rfl (Nat.le_of_ble_eq_true rfl) ?_
 ((conv=>whnf);repeat' ((first|((with_reducible refine br_id ?_);first|(with_reducible refine br_t ?_)|(with_reducible refine br_f ?_)|((with_reducible refine br_dec (fun hx=>?_) (fun hx=>?_))<;>(try (exfalso;first|omega|contradiction))))|((with_reducible refine ar_id ?_);first|((refine ar_d ?_))|((refine ar_m (by omega) ?_))|((refine ar_u64 (by omega) ?_))|(refine ar_i64 (by omega) ?_)|(refine ar_u32 (by omega) ?_))|((with_reducible refine gen_id ?_);(apply gen_max;exact rfl;exact rfl;exact rfl))|((with_reducible refine cl_id ?_);((refine cl_eq ((hat _)) rfl rfl ?_;rintro e w ⟨rfl,hcc⟩;replace hp:=hp.call0 hcc;refine ⟨_,rfl,?_⟩))))<;>(conv=>whnf)))
 ·rw [if_pos (by omega)]
  exact ps_of ⟨rfl,hp.chg⟩
 ·rw [if_pos (by omega)]
  exact ps_of ⟨rfl,hp.chg⟩
 ·rw [if_pos (by omega)]
  exact ps_of ⟨rfl,hp.chg⟩
 ·rw [if_neg (by omega),if_pos (by omega)]
  exact ps_of ⟨rfl,hp.chg⟩
 ·rw [if_neg (by omega),if_neg (by omega)]
  exact ps_val (v':= .tuple #[.int .u32 (b.toNat+M), .bool true]) rfl ⟨by unfold nextO;dsimp only;rw [Int.natCast_add],hp.chg⟩
structure Stp where
 sub:Sub
 place:Int
 fee:UInt32
abbrev Stp.c (x:Stp):List Value:=(u32 x.sub.key.ses::u32 x.sub.key.seq::u8 x.sub.breach[0]::u8 x.sub.breach[1]::u8 x.sub.breach[2]::u8 x.sub.breach[3]::u8 x.sub.breach[4]::u8 x.sub.breach[5]::u8 x.sub.breach[6]::u8 x.sub.breach[7]::u8 x.sub.breach[8]::u8 x.sub.breach[9]::u8 x.sub.breach[10]::u8 x.sub.breach[11]::u8 x.sub.breach[12]::u8 x.sub.breach[13]::u8 x.sub.breach[14]::u8 x.sub.breach[15]::u8 x.sub.breach[16]::u8 x.sub.breach[17]::u8 x.sub.breach[18]::u8 x.sub.breach[19]::u8 x.sub.breach[20]::u8 x.sub.breach[21]::u8 x.sub.breach[22]::u8 x.sub.breach[23]::u8 x.sub.breach[24]::u8 x.sub.breach[25]::u8 x.sub.breach[26]::u8 x.sub.breach[27]::u8 x.sub.breach[28]::u8 x.sub.breach[29]::u8 x.sub.breach[30]::u8 x.sub.breach[31]::u32 x.sub.height::i64 x.sub.tier::x.sub.tx.v::i64 x.place::u32 x.fee:: [])
abbrev Stp.v (x:Stp):Value:= .agg (List.toArray (u32 x.sub.key.ses::u32 x.sub.key.seq::u8 x.sub.breach[0]::u8 x.sub.breach[1]::u8 x.sub.breach[2]::u8 x.sub.breach[3]::u8 x.sub.breach[4]::u8 x.sub.breach[5]::u8 x.sub.breach[6]::u8 x.sub.breach[7]::u8 x.sub.breach[8]::u8 x.sub.breach[9]::u8 x.sub.breach[10]::u8 x.sub.breach[11]::u8 x.sub.breach[12]::u8 x.sub.breach[13]::u8 x.sub.breach[14]::u8 x.sub.breach[15]::u8 x.sub.breach[16]::u8 x.sub.breach[17]::u8 x.sub.breach[18]::u8 x.sub.breach[19]::u8 x.sub.breach[20]::u8 x.sub.breach[21]::u8 x.sub.breach[22]::u8 x.sub.breach[23]::u8 x.sub.breach[24]::u8 x.sub.breach[25]::u8 x.sub.breach[26]::u8 x.sub.breach[27]::u8 x.sub.breach[28]::u8 x.sub.breach[29]::u8 x.sub.breach[30]::u8 x.sub.breach[31]::u32 x.sub.height::i64 x.sub.tier::x.sub.tx.v::i64 x.place::u32 x.fee:: []))
def Stp.z:Stp:=⟨Sub.z,0,0⟩
theorem el_stp:ElT Tryz.prog 141 144 39 96:=elt_of (z:=Stp.z.v) Tryz.underlying141 (by kernel_rfl) rfl (by omega)
def cmpS (a b:Stp):Int:=if a.sub.height.toNat < b.sub.height.toNat∨(a.sub.height.toNat=b.sub.height.toNat∧a.place < b.place) then -1 else if a.sub.height.toNat=b.sub.height.toNat∧a.place=b.place then 0 else 1
theorem cmpS_any (a b:Stp) (w0:World):Calls Tryz.prog 161 #[a.v,b.v] w0 fun e w'=>e= .returned (i64 (cmpS a b))∧Chg N0 w0 w':=by
 have hp:=Hp.start (S:=N0) w0
 obtain ⟨z,hz⟩:∃z,cmpS a b=z:=⟨_,rfl⟩
 have hz:=hz
 unfold cmpS at hz
 refine calls_x (args:= [_,_]) tabOk Tryz.func161 Tryz.ntmps161 Tryz.results161 rfl (Nat.le_of_ble_eq_true rfl) ?_
 ((conv=>whnf);repeat' ((first|((with_reducible refine br_id ?_);first|(with_reducible refine br_t ?_)|(with_reducible refine br_f ?_)|((with_reducible refine br_dec (fun hx=>?_) (fun hx=>?_))<;>(try (exfalso;first|omega|contradiction)))|((with_reducible refine br_eq (fun hx=>?_) (fun hx=>?_))<;>(try (exfalso;first|omega|contradiction))))|((with_reducible refine ld_id ?_);(apply ld_hs hp;(focus repeat' constructor);exact rfl))|((with_reducible refine al_id ?_);(refine al_cel hp ?_;clear hp;intro bb w hp)))<;>(conv=>whnf)))
 all_goals first
  |(exfalso;omega)
  |(refine ps_val (v':=i64 (-1)) rfl ⟨?_,hp.chg⟩
    rw [if_pos (by omega)] at hz
    rw [‹cmpS a b=z›,←hz])
  |(refine ps_val (v':=i64 0) rfl ⟨?_,hp.chg⟩
    rw [if_neg (by omega),if_pos (by omega)] at hz
    rw [‹cmpS a b=z›,←hz])
  |(refine ps_val (v':=i64 1) rfl ⟨?_,hp.chg⟩
    rw [if_neg (by omega),if_neg (by omega)] at hz
    rw [‹cmpS a b=z›,←hz])
end Go.Proofs.YteabebmlclgakaaGreat
/- Eq: equality of the plain types. No condition. -/
namespace Go.Proofs.YteabebmlclgakaaGreat
open Go.RowKit
set_option maxRecDepth 100000
set_option maxHeartbeats 2000000
theorem eq_key (x y:Key):EqIs Tryz.prog 42 x.v y.v (decide (x=y)):=eqis_of (fs:=Tryz.prog.fieldsOf 42) (by kernel_rfl) (by kernel_rfl) fun w=>by
 have h0:=eqf_cons (P:=Tryz.prog) (w:=w) (d:=9999) (xs:= #[u32 x.ses,u32 x.seq]) (ys:= #[u32 y.ses,u32 y.seq]) (f:=((Tryz.prog.fieldsOf 42)[0]?).getD default) (by decide+kernel) (part_word (n:=1) (by kernel_rfl) (v:=u32 x.ses) (by kernel_rfl)) (part_word (n:=1) (by kernel_rfl) (v:=u32 y.ses) (by kernel_rfl))
  (run_equalIn_int w 9998 _ .u32 .u32 _ _ (by kernel_rfl)) (eqf_cons (f:=((Tryz.prog.fieldsOf 42)[1]?).getD default) (by decide+kernel) (part_word (n:=1) (by kernel_rfl) (v:=u32 x.seq) (by kernel_rfl)) (part_word (n:=1) (by kernel_rfl) (v:=u32 y.seq) (by kernel_rfl)) (run_equalIn_int w 9998 _ .u32 .u32 _ _ (by kernel_rfl)) eqf_nil)
 rw [u32_eq,u32_eq] at h0
 have e:(decide (x.ses=y.ses) && (decide (x.seq=y.seq) && true))=decide (x=y):=by
  rw [Bool.eq_iff_iff]
  cases x;cases y
  simp
 rw [e] at h0
 exact h0
end Go.Proofs.YteabebmlclgakaaGreat
/- Due: the document's Due, whether two submissions are the same, and a job that is due. -/
namespace Go.Proofs.YteabebmlclgakaaGreat
open Go.RowKit
set_option maxRecDepth 100000
set_option maxHeartbeats 2000000
def sameB (a b:Sub):Bool:=decide (a.key=b.key) && (decide (a.breach=b.breach) && (decide (a.height=b.height) && (decide (a.tier=b.tier) && decide (a.tx.l=b.tx.l))))
theorem same_any {B:Nat} {w0:World} (a b:Sub) (ha:SlAt B w0 u8L 1 a.tx) (hb:SlAt B w0 u8L 1 b.tx):Calls Tryz.prog 78 #[a.v,b.v] w0 fun e w'=>e= .returned (.bool (sameB a b))∧Chg N0 w0 w':=by
 have hp:=Hp.start (S:=N0) w0
 have hB:∀b,N0 b→B≤b:=fun _ hh=>hh.elim
 have u2:=Tryz.underlying38
 refine calls_x (args:= [_,_]) tabOk Tryz.func78 Tryz.ntmps78 Tryz.results78 rfl (Nat.le_of_ble_eq_true rfl) ?_
 ((conv=>whnf);repeat' ((first|((with_reducible refine br_id ?_);first|(with_reducible refine br_t ?_)|(with_reducible refine br_f ?_)|((with_reducible refine br_eq (fun hx=>?_) (fun hx=>?_))<;>(try (exfalso;first|omega|contradiction)))|((with_reducible refine br_s (fun hx=>?_) (fun hx=>?_))<;>(try (exfalso;first|omega|contradiction))))|((with_reducible refine ld_id ?_);(apply ld_hs hp;(focus repeat' constructor);exact rfl))|((with_reducible refine ldn_id ?_);(apply ldn_hs hp;(focus repeat' constructor);exact rfl;exact rfl))|((with_reducible refine al_id ?_);(refine al_cel hp ?_;clear hp;intro bb w hp))|((with_reducible refine gen_id ?_);first|((refine gen_eqa rfl rfl rfl (eq_key a.key b.key) (by kernel_rfl) (.inl rfl) ?_))|((refine gen_eqa rfl rfl rfl (eq_id a.breach b.breach) (by kernel_rfl) (.inl rfl) ?_))|((refine gen_b2s rfl (ha.keep hp.chg hB) u2 Tryz.underlying5 Tryz.underlying9 rfl ?_))|((refine gen_b2s rfl (hb.keep hp.chg hB) u2 Tryz.underlying5 Tryz.underlying9 rfl ?_))|((refine gen_streq rfl rfl rfl (.inl rfl) ?_))))<;>(conv=>whnf)))
 all_goals simp only [if_true,decide_eq_true_eq,decide_eq_false_iff_not] at*
 ·refine ps_val (v':= .bool (decide (a.tx.l=b.tx.l))) rfl ⟨?_,hp.chg⟩
  have:a.height=b.height:=UInt32.toNat_inj.1 (by omega)
  simp [sameB, *]
 all_goals
  refine ps_val (v':= .bool false) rfl ⟨?_,hp.chg⟩
  have h1:sameB a b=false:=by
   first
    |(simp [sameB, *];done)
    |(have:a.height≠b.height:=fun hh=>by
       have:a.height.toNat=b.height.toNat:=congrArg _ hh
       omega
      simp [sameB, *])
  rw [h1]
theorem el_tier:ElT Tryz.prog 45 51 2 32:=elt_of (z:= .agg #[.int .u32 0, .slice none 0 0]) Tryz.underlying45 (by kernel_rfl) rfl (by omega)
end Go.Proofs.YteabebmlclgakaaGreat
/- Str: bytes as strings, compared, in reading operations. No condition. -/
namespace Go.Proofs.YteabebmlclgakaaGreat
open Go.RowKit
set_option maxRecDepth 100000
set_option maxHeartbeats 2000000
end Go.Proofs.YteabebmlclgakaaGreat
/- Met: all places met are a permutation. No program in sight. -/
namespace Go.Proofs.YteabebmlclgakaaGreat
open Go.RowKit
set_option maxRecDepth 100000
set_option maxHeartbeats 2000000
end Go.Proofs.YteabebmlclgakaaGreat
/- Flt: what a loop has filtered so far. No program in sight. -/
namespace Go.Proofs.YteabebmlclgakaaGreat
open Go.RowKit
theorem Hp.nilRow {ν:Type} {S:Nat→Prop} {w0 w:World} {rs:List Res} (h:Hp S w0 w rs) (et:TypeId) (sz:Nat) (vc:ν→List Value):Hp S w0 w (rowR et sz vc (Sl.nil:Sl ν)::rs):=
 h.new (Chg.refl _ _) (rowR_ok.2 ⟨World.ownsRow_nil w 0 _ _,by simp [Sl.nil]⟩) fun b hb=>by have h1:=rowR_dom.1 hb;cases h1
theorem Hp.pick {S:Nat→Prop} {w0 w:World} {rs rs':List Res} (h:Hp S w0 w rs) (js:List Nat) (hn:js.Nodup) (he:js.map (fun j=>rs[j]?)=rs'.map some):Hp S w0 w rs':=by
 have hl:js.length=rs'.length:=by have:=congrArg List.length he;simpa using this
 have hat:∀a (ha:a < rs'.length),rs[js[a]'(by omega)]? =some rs'[a]:=fun a ha=>by
  have h1:(js.map (fun j=>rs[j]?))[a]? =(rs'.map some)[a]? :=by rw [he]
  rw [List.getElem?_map,List.getElem?_map,List.getElem?_eq_getElem (show a < js.length by omega),List.getElem?_eq_getElem ha] at h1
  exact Option.some.inj h1
 have hm:∀r∈rs',r∈rs:=fun r hr=>by
  obtain ⟨a,ha,rfl⟩:=List.getElem_of_mem hr
  exact List.mem_of_getElem? (hat a ha)
 refine ⟨h.chg,fun r hr=>h.ok r (hm r hr),List.pairwise_iff_getElem.2 fun a b la lb hab x hx hx'=>?_,fun r hr=>h.own r (hm r hr)⟩
 have h1:=hat a la
 have h2:=hat b lb
 have hne:js[a]'(by omega)≠js[b]'(by omega):=fun e=>by
  have:=(List.getElem_inj hn).1 e
  omega
 obtain ⟨l1,e1⟩:=List.getElem?_eq_some_iff.1 h1
 obtain ⟨l2,e2⟩:=List.getElem?_eq_some_iff.1 h2
 have hs:=List.pairwise_iff_getElem.1 h.sep
 rcases Nat.lt_or_gt_of_ne hne with h3|h3
 ·exact hs _ _ l1 l2 h3 x (by rw [e1];exact hx) (by rw [e2];exact hx')
 ·exact hs _ _ l2 l1 h3 x (by rw [e2];exact hx') (by rw [e1];exact hx)
end Go.Proofs.YteabebmlclgakaaGreat
