/- MAuditTells17: Sha3, Prt, Pay, Writer, Writer2, Pay3, Pay4, Str, PaySameR, PaySame, PayRs, PayCopy. -/
import Derived.Test.YteabebmlclgakaaGreatMAuditTells16
import Derived.Test.YteabebmlclgakaaGreatMAuditTells6
import Derived.Test.YteabebmlclgakaaGreatMAuditTells13
import Derived.Test.YteabebmlclgakaaGreatMAuditTells11
import Derived.Test.YteabebmlclgakaaGreatMAuditTells9
set_option linter.unusedSimpArgs false
set_option linter.unusedVariables false
/- Sha3: the end of a hash, its copy, its sum. -/
namespace Go.Proofs.YteabebmlclgakaaGreat
open Go.RowKit
set_option maxRecDepth 100000
set_option maxHeartbeats 2000000
theorem end_any {w0:World} {b:Nat} {m:List UInt8} {r:Sl UInt8} (h:(star (hashRs b m r)).ok w0) (hr:r.l=restS m) (hm:m.length≤1000000):Calls Tryz.prog 281 #[ptr b] w0 fun e w'=>∃q:Sl UInt8,q.l=endS m.length∧e= .returned q.v∧Made (rowR 5 1 u8L q) w0 w':=by
 have hp:=Hp.start (S:=N0) w0
 have u1:=Tryz.underlying38
 have hrl:r.l.length=m.length % 64:=by rw [hr,restS_len]
 have hk:padK m.length < 64:=by unfold padK;omega
 have hb:=cel_ok.1 (((star_ok (rs:=hashRs b m r)).1 h).1 (cel b 360 (hashC m r).toArray) (by simp [hashRs]))
 have c8:w0.cell? ⟨b,8,none⟩=some r.v:=cell_of_heap hb rfl
 have c9:w0.cell? ⟨b,9,none⟩=some (.int .u64 (m.length:Int)):=cell_of_heap hb rfl
 refine calls_x (args:= [_]) tabOk Tryz.func281 Tryz.ntmps281 Tryz.results281 rfl (Nat.le_of_ble_eq_true rfl) ?_
 ((conv=>whnf);repeat' (((with_reducible refine gen_id ?_);((refine gen_bs rfl hp el_u8 u8L (([128]:List UInt8)) ((([128]:List UInt8)).map u8) rfl rfl rfl (fun _ hh=>rfl) (by omega) ?_);clear hp;intro br w hp))<;>(conv=>whnf)))
 refine lp_inv (α:=Nat×Sl UInt8) (fun a=> [(0,ptr b),(3,a.2.v)]) (fun a w=>a.1≤padK m.length∧a.2.l=128::List.replicate a.1 0∧Hp N0 w0 w [rowR 5 1 u8L a.2]) (fun a=>padK m.length - a.1) (0,⟨some ⟨br,0,none⟩,1, [128]⟩) (by (repeat' (first|exact trivial|(refine ⟨rfl,?_⟩)))) ⟨by omega,rfl,hp⟩ ?_
 clear hp
 rintro ⟨k,q⟩ e0 w ⟨hkl,hq,hp⟩
 dsimp only at hkl hq hp ⊢
 have hql:q.l.length=1+k:=by rw [hq];simp;omega
 have hmod:=tmod_n (r.l.length+q.l.length+8) 64
 have hcast:((r.l.length:Int)+(q.l.length:Int)+8)=((r.l.length+q.l.length+8:Nat):Int):=by omega
 have c8':=hp.chg.cell0 c8
 have c9':=hp.chg.cell0 c9
 rcases Nat.lt_or_ge k (padK m.length) with hlt|hge
 ·have hne:(r.l.length+q.l.length+8) % 64≠0:=by unfold padK at hlt;omega
  ((conv=>whnf);repeat' ((first|((with_reducible refine br_id ?_);((refine br_1 (by rw [hcast,show (64:Int)=((64:Nat):Int) from rfl,hmod];simp only [bne_iff_ne];omega) ?_)))|((with_reducible refine ar_id ?_);(refine ar_i64 (by omega) ?_))|((with_reducible refine cn_id ?_);(refine cn (by omega) ?_))|((with_reducible refine ld_id ?_);((refine ld_of c8' ?_)))|((with_reducible refine gen_id ?_);first|((refine gen_bs rfl hp el_u8 u8L (([0]:List UInt8)) ((([0]:List UInt8)).map u8) rfl rfl rfl (fun _ hh=>rfl) (by omega) ?_);clear hp;intro br w hp)|((refine gen_app (s:=q) rfl hp 1 rfl el_u8 rfl ⟨some ⟨br,0,none⟩,1,([0]:List UInt8)⟩ rfl (hp.row (j:=0) rfl) (fun _ _=>rfl) u8_one (by simp only [List.length_cons,List.length_nil];omega) (by simp only [maxLen,List.length_cons,List.length_nil];omega) ?_);clear hp;intro A2 c2 w hp;dsimp only [List.set] at hp)|(apply gen_len;exact rfl;exact rfl;assumption)))<;>(conv=>whnf)))
  refine lp_next (k+1,⟨A2,c2,q.l++ [0]⟩) ?_ (by (repeat' (first|exact trivial|(refine ⟨rfl,?_⟩)))) ⟨by show k+1≤_;omega,by show q.l++ [0]=_;rw [hq,List.cons_append,←List.replicate_succ'],hp.sub (List.sublist_cons_self _ _)⟩
  show padK m.length - (k+1) < padK m.length - k
  omega
 ·obtain rfl:k=padK m.length:=by omega
  have he:(r.l.length+q.l.length+8) % 64=0:=by unfold padK at hql;omega
  ((conv=>whnf);repeat' ((first|((with_reducible refine br_id ?_);((refine br_0 (by rw [hcast,show (64:Int)=((64:Nat):Int) from rfl,hmod,he];rfl) ?_)))|((with_reducible refine ar_id ?_);first|((refine ar_u4 (8*m.length / 2 ^ 32) rfl ?_))|((refine ar_u4 (8*m.length) rfl ?_))|(refine ar_i64 (by omega) ?_)|(refine ar_u64 (by omega) ?_))|((with_reducible refine cn_id ?_);(refine cn (by omega) ?_))|((with_reducible refine ld_id ?_);first|((refine ld_of c8' ?_))|((refine ld_of c9' ?_)))|((with_reducible refine gen_id ?_);first|((refine gen_shr64 rfl (8*m.length) 32 rfl rfl rfl (by omega) ?_))|((refine gen_bs rfl hp el_u4 u4L ([UInt32.ofNat (8*m.length / 2 ^ 32),UInt32.ofNat (8*m.length)]) (([UInt32.ofNat (8*m.length / 2 ^ 32),UInt32.ofNat (8*m.length)]).map u4) rfl rfl rfl (fun _ hh=>rfl) (by omega) ?_);clear hp;intro br w hp)|(apply gen_len;exact rfl;exact rfl;assumption)))<;>(conv=>whnf)))
  refine cl_of (bytes_any (s:=⟨some ⟨br,0,none⟩,2, [UInt32.ofNat (8*m.length / 2 ^ 32),UInt32.ofNat (8*m.length)]⟩) (hp.row (j:=0) rfl) (Nat.le_of_ble_eq_true rfl)) ?_
  rintro e w ⟨x,hx,rfl,hmd⟩
  replace hp:=hp.add hmd
  clear hmd
  refine ⟨_,rfl,?_⟩
  have hxl:x.l.length=8:=by rw [hx,bytesOf_len];rfl
  ((conv=>whnf);repeat' (((with_reducible refine gen_id ?_);((refine gen_app (s:=q) rfl hp 2 rfl el_u8 rfl (x) rfl ((hp.row (j:=0) rfl)) (fun _ _=>rfl) u8_one (by (try simp only [List.length_append,List.length_cons,List.length_nil,List.length_map,List.length_replicate,maxLen]);omega) (by (try simp only [List.length_append,List.length_cons,List.length_nil,List.length_map,List.length_replicate,maxLen]);omega) ?_);clear hp;intro A2 c2 w hp;dsimp only [List.set] at hp))<;>(conv=>whnf)))
  refine ps_val (v':=(Sl.mk A2 c2 (q.l++x.l)).v) rfl ⟨⟨A2,c2,q.l++x.l⟩,?_,rfl,hp.made1 (j:=2) rfl⟩
  show q.l++x.l=_
  rw [hq,hx,be8_of _ (by omega),endS,Nat.mod_eq_of_lt (by omega:8*m.length < 2 ^ 64)]
  rfl
theorem clone_any {w0:World} {b:Nat} {m:List UInt8} {r:Sl UInt8} (h:(star (hashRs b m r)).ok w0) (hr:r.l=restS m):Calls Tryz.prog 280 #[ptr b] w0 fun e w'=>∃b' r',r'.l=r.l∧e= .returned (ptr b')∧Made (star (hashRs b' m r')) w0 w':=by
 have hp:=Hp.start (S:=N0) w0
 have hrl:r.l.length=m.length % 64:=by rw [hr,restS_len]
 have hb:=cel_ok.1 (((star_ok (rs:=hashRs b m r)).1 h).1 (cel b 360 (hashC m r).toArray) (by simp [hashRs]))
 have hrow:=rowR_at (((star_ok (rs:=hashRs b m r)).1 h).1 (rowR 5 1 u8L r) (by simp [hashRs]))
 have c8:w0.cell? ⟨b,8,none⟩=some r.v:=cell_of_heap hb rfl
 refine calls_x (args:= [_]) tabOk Tryz.func280 Tryz.ntmps280 Tryz.results280 rfl (Nat.le_of_ble_eq_true rfl) ?_
 ((conv=>whnf);repeat' ((first|((with_reducible refine br_id ?_);(with_reducible refine br_f ?_))|((with_reducible refine cn_id ?_);(refine cn rfl ?_))|((with_reducible refine ld_id ?_);((refine ld_of (hp.chg.cell0 c8) ?_)))|((with_reducible refine ldn_id ?_);((refine ldn_of (cs:=hashC m r) rfl (fun i v hv=>by rw [add_plain,Nat.zero_add];exact hp.chg.cell0 (cell_of_heap hb (by simpa using hv))) ?_)))|((with_reducible refine al_id ?_);(refine al_cel hp ?_;clear hp;intro bb w hp))|((with_reducible refine st_id ?_);first|(apply sta_hs hp;(focus repeat' constructor);exact rfl;exact rfl;clear hp;intro w hp;(try dsimp only [List.set] at hp))|(apply st_hs hp;(focus repeat' constructor);exact rfl;exact rfl;clear hp;intro w hp;(try dsimp only [List.set] at hp)))|((with_reducible refine gen_id ?_);((refine gen_app0 rfl hp el_u8 rfl (r) rfl ((hrow.keep hp.chg fun _ hh=>hh.elim)) (fun _ _=>rfl) u8_one (by (try simp only [List.length_append,List.length_cons,List.length_nil,List.length_map,List.length_replicate,maxLen]);omega) (by (try simp only [List.length_append,List.length_cons,List.length_nil,List.length_map,List.length_replicate,maxLen]);omega) ?_);clear hp;intro A2 c2 w hcc hp)))<;>(conv=>whnf)))
 exact ps_of ⟨bb,⟨A2,c2,r.l⟩,rfl,rfl,(hp.perm (.swap ..)).made (.refl _)⟩
theorem hsum_any {w0:World} {b:Nat} {m:List UInt8} {r:Sl UInt8} (h:(star (hashRs b m r)).ok w0) (hr:r.l=restS m) (hm:m.length≤900000):Calls Tryz.prog 271 #[ptr b] w0 fun e w'=>e= .returned (shaV m).v∧Chg N0 w0 w':=by
 have hp:=Hp.start (S:=N0) w0
 refine calls_x (args:= [_]) tabOk Tryz.func271 Tryz.ntmps271 Tryz.results271 rfl (Nat.le_of_ble_eq_true rfl) ?_
 ((conv=>whnf);repeat' (((with_reducible refine al_id ?_);(refine al_cel hp ?_;clear hp;intro bb w hp))<;>(conv=>whnf)))
 refine cl_of (clone_any ((star (hashRs b m r)).keep0 h hp.chg) hr) ?_
 rintro e w ⟨b',r',hr',rfl,hmd⟩
 replace hp:=hp.add hmd
 clear hmd
 refine ⟨_,rfl,?_⟩
 ((conv=>whnf);repeat' (((with_reducible refine br_id ?_);(with_reducible refine br_f ?_))<;>(conv=>whnf)))
 refine cl_of (end_any (hp.get (j:=0) rfl) (hr'.trans hr) (by omega)) ?_
 rintro e w ⟨q,hq,rfl,hmd⟩
 replace hp:=hp.add hmd
 clear hmd
 refine ⟨_,rfl,?_⟩
 have hql:q.l.length≤200:=by
  rw [hq]
  simp only [endS,be8,List.length_append,List.length_cons,List.length_replicate,List.length_nil,padK]
  omega
 have hsep:q.l≠ []→∀k o,q.A=some ⟨k,o,none⟩→¬(star (hashRs b' m r')).dom k:=fun _ k o hA=>(List.pairwise_cons.1 hp.sep).1 (star (hashRs b' m r')) (by simp) k (rowR_dom.2 (by simp [Sl.v,Value.ownBlock,hA]))
 ((conv=>whnf);repeat' ((first|((with_reducible refine br_id ?_);first|(with_reducible refine br_t ?_)|(with_reducible refine br_f ?_)|(with_reducible refine br_not ?_)|((with_reducible refine br_dec (fun hx=>?_) (fun hx=>?_))<;>(try (exfalso;first|omega|exact absurd hx ‹_› |exact absurd ‹_› hx)))|((with_reducible refine br_eq (fun hx=>?_) (fun hx=>?_))<;>(try (exfalso;first|omega|exact absurd hx ‹_› |exact absurd ‹_› hx)))|((with_reducible refine br_ne (fun hx=>?_) (fun hx=>?_))<;>(try (exfalso;first|omega|exact absurd hx ‹_› |exact absurd ‹_› hx)))|((with_reducible refine br_s (fun hx=>?_) (fun hx=>?_))<;>(try (exfalso;first|omega|exact absurd hx ‹_› |exact absurd ‹_› hx))))|((with_reducible refine ar_id ?_);first|(refine ar_i64 (by omega) ?_)|(refine ar_u32 (by omega) ?_)|(refine ar_u64 (by omega) ?_)|(refine ar_u8 (by omega) ?_))|((with_reducible refine cn_id ?_);first|(refine cn rfl ?_)|(refine cn ‹_› ?_)|(refine cn (by omega) ?_)|(refine cn (Chg.refl _ _) ?_))|((with_reducible refine ld_id ?_);first|(apply ld_hs hp;(focus repeat' constructor);exact rfl)|(refine ld_of ‹_› ?_))|((with_reducible refine ldn_id ?_);first|(apply lda_hs hp;(focus repeat' constructor);exact rfl)|(apply ldn_hs hp;(focus repeat' constructor);exact rfl;exact rfl))|((with_reducible refine al_id ?_);(refine al_cel hp ?_;clear hp;intro bb w hp))|((with_reducible refine st_id ?_);first|(apply sta_hs hp;(focus repeat' constructor);exact rfl;exact rfl;clear hp;intro w hp;(try dsimp only [List.set] at hp))|(apply st_hs hp;(focus repeat' constructor);exact rfl;exact rfl;clear hp;intro w hp;(try dsimp only [List.set] at hp)))|((with_reducible refine gen_id ?_);first|(apply gen_build;exact rfl;exact rfl)|(apply gen_len;exact rfl;exact rfl;assumption)|(apply gen_min;exact rfl;exact rfl;exact rfl)|(apply gen_max;exact rfl;exact rfl;exact rfl)|(apply gen_ix;exact rfl;exact rfl;exact rfl;exact rfl;omega)|(apply gen_ixa;exact rfl;exact rfl;exact rfl;exact rfl;omega))|((with_reducible refine dr_id ?_);first|(refine dr_auto tabOk (by kernel_rfl) (by decide+kernel) ?_;(try replace hp:=hp.drew))|(refine dr_autog tabOk (by kernel_rfl) (by decide+kernel) ?_;(try replace hp:=hp.drew))|(refine dr_autot tabOk (by kernel_rfl) (by decide+kernel) ?_;(try replace hp:=hp.drew)))|((with_reducible refine fk_id ?_);(refine fk_mk ?_ ?_))|((with_reducible refine rd_id ?_);first|(apply rd_len;exact rfl;exact rfl;assumption)|(apply rd_ix;exact rfl;exact rfl;exact rfl;exact rfl;omega)))<;>(conv=>whnf)))
 refine cl_of (write_any (hp.get (j:=1) rfl) (hr'.trans hr) (by omega) (hp.row (j:=0) rfl) (by omega) hsep) ?_
 rintro e w ⟨r2,hr2,rfl,hmd⟩
 replace hp:=hp.via (j:=1) rfl hmd
 dsimp only [List.set] at hp
 clear hmd hsep
 refine ⟨_,rfl,?_⟩
 replace hp:=(hp.perm (.swap ..)).unfold
 dsimp only [List.cons_append,List.nil_append] at hp
 obtain ⟨S2,hS2⟩:∃S2,doneS (m++q.l)=S2:=⟨_,rfl⟩
 ((conv=>whnf);repeat' ((first|((with_reducible refine dr_id ?_);(refine dr_autog tabOk (by kernel_rfl) (by decide+kernel) ?_;(try replace hp:=hp.drew)))|((with_reducible refine rd_id ?_);first|((refine rd_arr rfl Tryz.underlying44 rfl rfl (List.replicate 32 (0:UInt8)) rfl ?_))|((refine rd_arr rfl Tryz.underlying357 rfl rfl (doneS (m++q.l)).l rfl ?_))))<;>(conv=>whnf)))
 have hsl:=cel_slat (enc:=u4L) (sz:=1) (ofs:=0) (l:=(doneS (m++q.l)).l) hp (j:=0) rfl (fun _ _=>rfl) rfl (Nat.le_of_ble_eq_true rfl)
 refine cl_of (bytes_any (s:=arrS b' 0 (doneS (m++q.l)).l) hsl (Nat.le_of_ble_eq_true rfl)) ?_
 rintro e w ⟨x,hx,rfl,hmd⟩
 replace hp:=hp.add hmd
 have hcc:=hmd.chg
 clear hmd hsl
 refine ⟨_,rfl,?_⟩
 have hX:x.l=shaL m:=by rw [hx,sha_of,←hq];rfl
 have hXl:x.l.length=32:=by rw [hX,shaL_len]
 ((conv=>whnf);repeat' ((first|((with_reducible refine cn_id ?_);(refine cn ‹_› ?_))|((with_reducible refine gen_id ?_);((refine gen_copy rfl hp 4 rfl el_u8 rfl x rfl (hp.row (j:=0) rfl) (fun hh=>by rw [hh] at hXl;cases hXl) (fun _ _=>rfl) u8_one (n:=32) (by rw [hXl];rfl) (by decide) ?_);clear hp;intro w hp;dsimp only [List.set] at hp)))<;>(conv=>whnf)))
 have hcs:(List.take 0 (rep 32 i_u8).cells.toList++List.flatMap u8L (List.take 32 x.l)++List.drop (0+32) (rep 32 i_u8).cells.toList).toArray=(idOf x.l hXl).c.toArray:=by
  rw [List.take_of_length_le (l:=x.l) (by omega),flat_one,←idOf_c]
  simp only [arC,List.take_zero,List.nil_append]
  congr 1
  exact List.append_nil _
 rw [hcs] at hp
 clear hcs
 obtain ⟨X,hXX⟩:∃X,idOf x.l hXl=X:=⟨_,rfl⟩
 have hXV:X=shaV m:=by rw [←hXX];unfold shaV;congr 1
 rw [hXX] at hp
 ((conv=>whnf);repeat' ((first|((with_reducible refine cn_id ?_);(refine cn rfl ?_))|((with_reducible refine ldn_id ?_);(apply lda_hs hp;(focus repeat' constructor);exact rfl))|((with_reducible refine st_id ?_);(apply sta_hs hp;(focus repeat' constructor);exact rfl;exact rfl;clear hp;intro w hp;(try dsimp only [List.set] at hp))))<;>(conv=>whnf)))
 exact ps_val (v':=X.v) rfl ⟨by rw [hXV],hp.chg⟩
abbrev prtL (s:Sl UInt8):List Value:= [s.v]
theorem ssum_any {B:Nat} {w0:World} {ps:Sl (Sl UInt8)} (h:SlAt B w0 prtL 1 ps) (hBw:B≤w0.heap.size) (hps:∀s∈ps.l,SlAt B w0 u8L 1 s) (hn:(ps.l.flatMap (·.l)).length≤900000):Calls Tryz.prog 248 #[ps.v] w0 fun e w'=>e= .returned (shaV (ps.l.flatMap (·.l))).v∧Chg N0 w0 w':=by
 have hp:=Hp.start (S:=N0) w0
 have hB:∀b,N0 b→B≤b:=fun _ hh=>hh.elim
 have u1:=Tryz.underlying319
 have hmax:ps.l.length≤9223372036854775807:=by have:=h.le;have:=h.max;simp only [maxLen] at this;omega
 refine calls_x (args:= [_]) tabOk Tryz.func248 Tryz.ntmps248 Tryz.results248 rfl (Nat.le_of_ble_eq_true rfl) ?_
 ((conv=>whnf);repeat' (((with_reducible refine al_id ?_);(refine al_cel hp ?_;clear hp;intro bb w hp))<;>(conv=>whnf)))
 refine cl_of new_any ?_
 rintro e w ⟨b,rfl,hmd⟩
 replace hp:=hp.add hmd
 clear hmd
 refine ⟨_,rfl,?_⟩
 obtain ⟨b2,hb2⟩:∃b2,b2=bb:=⟨_,rfl⟩
 subst hb2
 ((conv=>whnf);repeat' (((with_reducible refine gen_id ?_);(apply gen_len;exact rfl;exact rfl;assumption))<;>(conv=>whnf)))
 refine lp_inv (α:=Nat×Sl UInt8) (fun a=> [(2,ptr b2),(3,ptr b),(7,ps.v),(8,i64 ps.l.length),(9,i64 a.1)]) (fun a w=>a.1≤ps.l.length∧a.2.l=restS ((ps.l.take a.1).flatMap (·.l))∧Hp N0 w0 w [star (hashRs b ((ps.l.take a.1).flatMap (·.l)) a.2),cel b2 44 (rep 32 i_u8).cells]) (fun a=>ps.l.length - a.1) (0,Sl.nil) (by (repeat' (first|exact trivial|(refine ⟨rfl,?_⟩)))) ⟨by omega,by simp only [List.take_zero,List.flatMap_nil];rfl,by simp only [List.take_zero,List.flatMap_nil];exact hp⟩ ?_
 clear hp
 rintro ⟨i,r⟩ e0 w ⟨hi,hr,hp⟩
 dsimp only at hi hr hp ⊢
 have hlen:((ps.l.take i).flatMap (·.l)).length≤900000:=by
  have h1:((ps.l.take i).flatMap (·.l))++((ps.l.drop i).flatMap (·.l))=ps.l.flatMap (·.l):=by rw [←List.flatMap_append,List.take_append_drop]
  have h2:=congrArg List.length h1
  rw [List.length_append] at h2
  omega
 rcases Nat.lt_or_ge i ps.l.length with hlt|hge
 ·obtain ⟨bb,o,x,hA,hb,hrow,hxx⟩:=h.has hlt
  have hmem:=List.mem_of_getElem? hxx
  have hxl:x.l.length≤900000:=by
   have h1:((ps.l.take i).flatMap (·.l))++((ps.l.drop i).flatMap (·.l))=ps.l.flatMap (·.l):=by rw [←List.flatMap_append,List.take_append_drop]
   rw [List.getElem?_eq_getElem hlt] at hxx
   have h3:=Option.some.inj hxx
   rw [List.drop_eq_getElem_cons hlt,List.flatMap_cons,h3] at h1
   have h2:=congrArg List.length h1
   rw [List.length_append,List.length_append] at h2
   omega
  have hxa:=hps x hmem
  ((conv=>whnf);repeat' ((first|((with_reducible refine br_id ?_);((with_reducible refine br_dec (fun hx=>?_) (fun hx=>?_))<;>(try (exfalso;first|omega|exact absurd hx ‹_› |exact absurd ‹_› hx))))|((with_reducible refine ld_id ?_);((refine ld_row0 hp hB ‹_› ‹_› _ rfl ‹_› (by rfl) ?_)))|((with_reducible refine gen_id ?_);((refine gen_ixs rfl rfl ‹_› rfl rfl (by omega) ?_))))<;>(conv=>whnf)))
  refine cl_of (write_any (hp.get (j:=0) rfl) hr (by omega) (hxa.keep hp.chg hB) (by omega) (fun hne k o hk hd=>?_)) ?_
  ·have h1:=(hp.own _ (by simp) k hd).resolve_left (fun hh=>hh)
   obtain ⟨b',o',h4,h5,_⟩:=hxa.row hne
   rw [hk] at h4
   cases h4
   omega
  ·rintro e w ⟨r2,hr2,rfl,hmd⟩
   replace hp:=hp.via (j:=0) rfl hmd
   dsimp only [List.set] at hp
   clear hmd
   refine ⟨_,rfl,?_⟩
   have htk:(ps.l.take (i+1)).flatMap (·.l)=(ps.l.take i).flatMap (·.l)++x.l:=by
    rw [List.take_add_one,hxx,List.flatMap_append]
    simp
   ((conv=>whnf);repeat' (((with_reducible refine ar_id ?_);(refine ar_i64 (by omega) ?_))<;>(conv=>whnf)))
   refine lp_next (i+1,r2) ?_ (by (repeat' (first|exact trivial|(refine ⟨rfl,?_⟩)))) ⟨by show i+1≤_;omega,by show r2.l=restS ((ps.l.take (i+1)).flatMap (·.l));rw [htk,hr2],?_⟩
   ·show ps.l.length - (i+1) < ps.l.length - i;omega
   ·show Hp N0 w0 w [star (hashRs b ((ps.l.take (i+1)).flatMap (·.l)) r2),_]
    rw [htk]
    exact hp
 ·rw [List.take_of_length_le hge] at hr hp hlen
  ((conv=>whnf);repeat' (((with_reducible refine br_id ?_);((with_reducible refine br_dec (fun hx=>?_) (fun hx=>?_))<;>(try (exfalso;first|omega|exact absurd hx ‹_› |exact absurd ‹_› hx))))<;>(conv=>whnf)))
  refine cl_of (hsum_any (hp.get (j:=0) rfl) hr hlen) ?_
  rintro e w ⟨rfl,hc⟩
  replace hp:=hp.call0 hc
  refine ⟨_,rfl,?_⟩
  obtain ⟨X,hX⟩:∃X,shaV (ps.l.flatMap (·.l))=X:=⟨_,rfl⟩
  rw [hX]
  ((conv=>whnf);repeat' ((first|((with_reducible refine cn_id ?_);(refine cn rfl ?_))|((with_reducible refine ldn_id ?_);(apply lda_hs hp;(focus repeat' constructor);exact rfl))|((with_reducible refine st_id ?_);(apply sta_hs hp;(focus repeat' constructor);exact rfl;exact rfl;clear hp;intro w hp;(try dsimp only [List.set] at hp))))<;>(conv=>whnf)))
  exact ps_val (v':=X.v) rfl ⟨rfl,hp.chg⟩
end Go.Proofs.YteabebmlclgakaaGreat
/- Prt: rows of byte slices. No condition. -/
namespace Go.Proofs.YteabebmlclgakaaGreat
open Go.RowKit
set_option maxRecDepth 100000
set_option maxHeartbeats 2000000
theorem el_prt:ElT Tryz.prog 319 38 1 24:=elt_of (z:= .slice none 0 0) Tryz.underlying319 (by kernel_rfl) rfl (by omega)
end Go.Proofs.YteabebmlclgakaaGreat
/- Pay: payloads: ids, places, whether two are the same, copies. -/
namespace Go.Proofs.YteabebmlclgakaaGreat
open Go.RowKit
set_option maxRecDepth 100000
set_option maxHeartbeats 2000000
theorem rid_any {B:Nat} {w0:World} {s:Sl UInt8} (h:SlAt B w0 u8L 1 s) (hn:s.l.length≤900000):Calls Tryz.prog 19 #[s.v] w0 fun e w'=>e= .returned (shaV s.l).v∧Chg N0 w0 w':=by
 have hp:=Hp.start (S:=N0) w0
 have hB:∀b,N0 b→B≤b:=fun _ hh=>hh.elim
 obtain ⟨X,hX⟩:∃X,shaV s.l=X:=⟨_,rfl⟩
 refine calls_x (args:= [_]) tabOk Tryz.func19 Tryz.ntmps19 Tryz.results19 rfl (Nat.le_of_ble_eq_true rfl) ?_
 ((conv=>whnf);repeat' (((with_reducible refine al_id ?_);(refine al_cel hp ?_;clear hp;intro bb w hp))<;>(conv=>whnf)))
 refine cl_of (sum02_any (h.keep hp.chg hB) (by omega)) ?_
 rintro e w ⟨rfl,hc⟩
 replace hp:=hp.call0 hc
 refine ⟨_,rfl,?_⟩
 rw [hX]
 ((conv=>whnf);repeat' ((first|((with_reducible refine cn_id ?_);(refine cn rfl ?_))|((with_reducible refine ldn_id ?_);(apply lda_hs hp;(focus repeat' constructor);exact rfl))|((with_reducible refine st_id ?_);(apply sta_hs hp;(focus repeat' constructor);exact rfl;exact rfl;clear hp;intro w hp;(try dsimp only [List.set] at hp))))<;>(conv=>whnf)))
 exact ps_val (v':=X.v) rfl ⟨rfl,hp.chg⟩
theorem txid_any {B:Nat} {w0:World} {s:Sl UInt8} (h:SlAt B w0 u8L 1 s) (hBw:B≤w0.heap.size) (hn:s.l.length≤900000):Calls Tryz.prog 225 #[s.v] w0 fun e w'=>e= .returned (shaV s.l).v∧Chg N0 w0 w':=by
 have hp:=Hp.start (S:=N0) w0
 have hB:∀b,N0 b→B≤b:=fun _ hh=>hh.elim
 obtain ⟨X,hX⟩:∃X,shaV s.l=X:=⟨_,rfl⟩
 refine calls_x (args:= [_]) tabOk Tryz.func225 Tryz.ntmps225 Tryz.results225 rfl (Nat.le_of_ble_eq_true rfl) ?_
 ((conv=>whnf);repeat' ((first|((with_reducible refine al_id ?_);(refine al_cel hp ?_;clear hp;intro bb w hp))|((with_reducible refine gen_id ?_);((refine gen_bs rfl hp el_prt prtL [s] [s.v] rfl rfl rfl (fun _ hh=>by simp at hh;subst hh;rfl) (by omega) ?_);clear hp;intro br w hp)))<;>(conv=>whnf)))
 refine cl_of (ssum_any (ps:=⟨some ⟨br,0,none⟩,1, [s]⟩) (hp.row (j:=0) rfl) (Nat.le_refl _) (fun x hx=>?_) (by simpa using hn)) ?_
 ·simp at hx
  subst hx
  exact (h.keep hp.chg hB).more (Nat.le_trans hBw hp.chg.size)
 rintro e w ⟨rfl,hc⟩
 replace hp:=hp.call0 hc
 refine ⟨_,rfl,?_⟩
 rw [show (Sl.mk (some ⟨br,0,none⟩) 1 [s]).l.flatMap (fun x=>x.l)=s.l from List.append_nil _,hX]
 ((conv=>whnf);repeat' ((first|((with_reducible refine cn_id ?_);(refine cn rfl ?_))|((with_reducible refine ldn_id ?_);(apply lda_hs hp;(focus repeat' constructor);exact rfl))|((with_reducible refine st_id ?_);(apply sta_hs hp;(focus repeat' constructor);exact rfl;exact rfl;clear hp;intro w hp;(try dsimp only [List.set] at hp))))<;>(conv=>whnf)))
 exact ps_val (v':=X.v) rfl ⟨rfl,hp.chg⟩
def fewP (p:Payload):Bool:=p.l.all (fun t=>decide (t.tx.l.length≤200)) && decide (p.l.length≤20)
theorem fewP_at {p:Payload} (h:fewP p=true):(∀t∈p.l,t.tx.l.length≤200)∧p.l.length≤20:=by
 unfold fewP at h
 simpa using h
theorem few13_any {B:Nat} {w0:World} {p:Payload} (h:PayAt B w0 p):Calls Tryz.prog 42 #[p.pv] w0 fun e w'=>e= .returned (.bool (fewP p))∧Chg N0 w0 w':=by
 have hp:=Hp.start (S:=N0) w0
 have hB:∀b,N0 b→B≤b:=fun _ hh=>hh.elim
 have u1:=Tryz.underlying45
 have u2:=Tryz.underlying38
 have hmax:p.l.length≤9223372036854775807:=by have:=h.row.le;have:=h.row.max;simp only [maxLen] at this;omega
 refine calls_x (args:= [_]) tabOk Tryz.func42 Tryz.ntmps42 Tryz.results42 rfl (Nat.le_of_ble_eq_true rfl) ?_
 ((conv=>whnf);repeat' (((with_reducible refine al_id ?_);(refine al_cel hp ?_;clear hp;intro bb w hp))<;>(conv=>whnf)))
 refine lp_inv (α:=Nat) (fun i=> [(1,ptr bb),(3,i64 i)]) (fun i w=>i≤p.l.length∧(∀t∈p.l.take i,t.tx.l.length≤200)∧Hp N0 w0 w [cel bb 47 #[p.v]]) (fun i=>p.l.length - i) 0 (by (repeat' (first|exact trivial|(refine ⟨rfl,?_⟩)))) ⟨by omega,by simp,hp⟩ ?_
 clear hp
 rintro i e0 w ⟨hi,hall,hp⟩
 rcases Nat.lt_or_ge i p.l.length with hlt|hge
 ·obtain ⟨b,o,x,hA,hb,hrow,hxx⟩:=h.row.has hlt
  have hmem:=List.mem_of_getElem? hxx
  ((conv=>whnf);repeat' ((first|((with_reducible refine br_id ?_);((with_reducible refine br_dec (fun hx=>?_) (fun hx=>?_))<;>(try (exfalso;first|omega|contradiction))))|((with_reducible refine ar_id ?_);(refine ar_i64 (by omega) ?_))|((with_reducible refine ld_id ?_);first|((refine ld_row hp hB ‹_› ‹_› _ _ rfl ‹_› (by rfl) ?_))|(apply ld_hs hp;(focus repeat' constructor);exact rfl))|((with_reducible refine gen_id ?_);first|((refine gen_ixs rfl rfl ‹_› rfl rfl (by omega) ?_))|(apply gen_len;exact rfl;exact rfl;assumption)))<;>(conv=>whnf)))
  ·refine ps_val (v':= .bool false) rfl ⟨?_,hp.chg⟩
   have h1:fewP p=false:=by
    unfold fewP
    rw [Bool.and_eq_false_iff]
    left
    rw [List.all_eq_false]
    exact ⟨x,hmem,by simp only [decide_eq_true_eq];omega⟩
   rw [h1]
  ·refine lp_next (i+1) (by omega) (by (repeat' (first|exact trivial|(refine ⟨rfl,?_⟩)))) ⟨by omega,fun t ht=>?_,hp⟩
   rw [List.take_add_one,hxx] at ht
   rcases List.mem_append.1 ht with ht|ht
   ·exact hall t ht
   ·simp at ht
    subst ht
    omega
 ·((conv=>whnf);repeat' ((first|((with_reducible refine br_id ?_);((with_reducible refine br_dec (fun hx=>?_) (fun hx=>?_))<;>(try (exfalso;first|omega|contradiction))))|((with_reducible refine ld_id ?_);(apply ld_hs hp;(focus repeat' constructor);exact rfl))|((with_reducible refine gen_id ?_);(apply gen_len;exact rfl;exact rfl;assumption)))<;>(conv=>whnf)))
  refine ps_val (v':= .bool (decide ((p.l.length:Int)≤20))) rfl ⟨?_,hp.chg⟩
  rw [List.take_of_length_le hge] at hall
  have h1:fewP p=decide ((p.l.length:Int)≤20):=by
   unfold fewP
   rw [List.all_eq_true.2 (fun x hx=>decide_eq_true (hall x hx)),Bool.true_and]
   exact decide_eq_decide.2 (by omega)
  rw [h1]
end Go.Proofs.YteabebmlclgakaaGreat
/- Writer: what a writer comes to. -/
namespace Go.Proofs.YteabebmlclgakaaGreat
open Go.RowKit
set_option maxRecDepth 100000
set_option maxHeartbeats 2000000
end Go.Proofs.YteabebmlclgakaaGreat
/- Writer2: numbers, written. -/
namespace Go.Proofs.YteabebmlclgakaaGreat
open Go.RowKit
set_option maxRecDepth 100000
set_option maxHeartbeats 2000000
section
variable {α : Type} {P : Program} {w : World} {ρ : Operand → Value} {o : Oper} {g : Value → World → Prop} {t e : TypeId} {x lo : Operand}
end
end Go.Proofs.YteabebmlclgakaaGreat
/- Pay3: which payload may be, and its bytes. -/
namespace Go.Proofs.YteabebmlclgakaaGreat
open Go.RowKit
set_option maxRecDepth 100000
set_option maxHeartbeats 2000000
theorem el_tier:ElT Tryz.prog 45 51 2 32:=elt_of (z:= .agg #[.int .u32 0, .slice none 0 0]) Tryz.underlying45 (by kernel_rfl) rfl (by omega)
def tierOk (l:List Tier) (i:Nat):Bool:=match l[i]? with
 |some t=>decide (1≤t.tx.l.length∧t.tx.l.length≤64) && (match i with
  |0=>true
  |k+1=>match l[k]? with
   |some s=>decide (s.fee.toNat < t.fee.toNat)
   |none=>true)
 |none=>true
def rightP (p:Payload):Bool:=decide (1≤p.l.length∧p.l.length≤8) && (List.range p.l.length).all (tierOk p.l)
theorem tierOk_zero {l:List Tier} {t:Tier} (h:l[0]? =some t):tierOk l 0=decide (1≤t.tx.l.length∧t.tx.l.length≤64):=by
 unfold tierOk
 rw [h]
 exact Bool.and_true _
theorem tierOk_succ {l:List Tier} {k:Nat} {t s:Tier} (h:l[k+1]? =some t) (hs:l[k]? =some s):tierOk l (k+1)=(decide (1≤t.tx.l.length∧t.tx.l.length≤64) && decide (s.fee.toNat < t.fee.toNat)):=by
 unfold tierOk
 rw [h]
 simp only [hs]
theorem rightP_no {p:Payload} {i:Nat} (hi:i < p.l.length) (h:tierOk p.l i=false):rightP p=false:=by
 unfold rightP
 rw [Bool.and_eq_false_iff]
 right
 rw [List.all_eq_false]
 exact ⟨i,List.mem_range.2 hi,by rw [h];simp⟩
theorem rightP_at {p:Payload} (h:rightP p=true):1≤p.l.length∧p.l.length≤8∧∀t∈p.l,1≤t.tx.l.length∧t.tx.l.length≤64:=by
 unfold rightP at h
 rw [Bool.and_eq_true,List.all_eq_true] at h
 obtain ⟨h1,h2⟩:=h
 have h1:=of_decide_eq_true h1
 refine ⟨h1.1,h1.2,fun t ht=>?_⟩
 obtain ⟨i,hi⟩:=List.mem_iff_getElem?.1 ht
 have h3:=h2 i (List.mem_range.2 (List.getElem?_eq_some_iff.1 hi).1)
 unfold tierOk at h3
 rw [hi] at h3
 simp only [Bool.and_eq_true,decide_eq_true_eq] at h3
 exact h3.1
theorem rightp_any {B:Nat} {w0:World} {p:Payload} (h:PayAt B w0 p):Calls Tryz.prog 216 #[p.pv] w0 fun e w'=>e= .returned (.bool (rightP p))∧Chg N0 w0 w':=by
 have hp:=Hp.start (S:=N0) w0
 have hB:∀b,N0 b→B≤b:=fun _ hh=>hh.elim
 have u1:=Tryz.underlying45
 have u2:=Tryz.underlying38
 have hmax:p.l.length≤9223372036854775807:=by have:=h.row.le;have:=h.row.max;simp only [maxLen] at this;omega
 refine calls_x (args:= [_]) tabOk Tryz.func216 Tryz.ntmps216 Tryz.results216 rfl (Nat.le_of_ble_eq_true rfl) ?_
 ((conv=>whnf);repeat' ((first|((with_reducible refine br_id ?_);first|(with_reducible refine br_t ?_)|(with_reducible refine br_f ?_)|((with_reducible refine br_dec (fun hx=>?_) (fun hx=>?_))<;>(try (exfalso;first|omega|contradiction))))|((with_reducible refine ld_id ?_);(apply ld_hs hp;(focus repeat' constructor);exact rfl))|((with_reducible refine al_id ?_);(refine al_cel hp ?_;clear hp;intro bb w hp))|((with_reducible refine gen_id ?_);(apply gen_len;exact rfl;exact rfl;assumption)))<;>(conv=>whnf)))
 ·refine ps_val (v':= .bool false) rfl ⟨?_,hp.chg⟩
  have:rightP p=false:=by
   unfold rightP
   rw [decide_eq_false (by omega),Bool.false_and]
  rw [this]
 ·refine ps_val (v':= .bool false) rfl ⟨?_,hp.chg⟩
  have:rightP p=false:=by
   unfold rightP
   rw [decide_eq_false (by omega),Bool.false_and]
  rw [this]
 ·refine lp_inv (α:=Nat) (fun i=> [(1,ptr bb),(16,p.v),(17,i64 p.l.length),(18,i64 i)]) (fun i w=>i≤p.l.length∧(∀j,j < i→tierOk p.l j=true)∧Hp N0 w0 w [cel bb 47 #[p.v]]) (fun i=>p.l.length - i) 0 (by (repeat' (first|exact trivial|(refine ⟨rfl,?_⟩)))) ⟨by omega,fun j hj=>by omega,hp⟩ ?_
  clear hp
  rintro i e0 w ⟨hi,hall,hp⟩
  rcases Nat.lt_or_ge i p.l.length with hlt|hge
  ·obtain ⟨b,o,x,hA,hb,hrow,hxx⟩:=h.row.has hlt
   have hmem:=List.mem_of_getElem? hxx
   have hxm:x.tx.l.length≤9223372036854775807:=by have:=(h.tx x hmem).le;have:=(h.tx x hmem).max;simp only [maxLen] at this;omega
   have next:∀{w:World},tierOk p.l i=true→∀j,j < i+1→tierOk p.l j=true:=fun ht j hj=>by
    rcases Nat.lt_or_ge j i with h1|h1
    ·exact hall j h1
    ·obtain rfl:j=i:=by omega
     exact ht
   cases i with
   |zero=>
    ((conv=>whnf);repeat' ((first|((with_reducible refine br_id ?_);first|(with_reducible refine br_t ?_)|(with_reducible refine br_f ?_)|((with_reducible refine br_dec (fun hx=>?_) (fun hx=>?_))<;>(try (exfalso;first|omega|contradiction))))|((with_reducible refine ar_id ?_);(refine ar_i64 (by omega) ?_))|((with_reducible refine cn_id ?_);(refine cn rfl ?_))|((with_reducible refine ld_id ?_);(apply ld_hs hp;(focus repeat' constructor);exact rfl))|((with_reducible refine ldn_id ?_);((refine ldn_rowx hp hB ‹_› ‹_› _ rfl ‹_› rfl ?_)))|((with_reducible refine al_id ?_);(refine al_cel hp ?_;clear hp;intro bb w hp))|((with_reducible refine st_id ?_);(apply sta_hs hp;(focus repeat' constructor);exact rfl;exact rfl;clear hp;intro w hp;(try dsimp only [List.set] at hp)))|((with_reducible refine gen_id ?_);((refine gen_ixs rfl rfl ‹_› rfl rfl (by omega) ?_)))|((with_reducible refine dr_id ?_);(refine dr_auto tabOk (by kernel_rfl) (by decide+kernel) ?_;(try replace hp:=hp.drew)))|((with_reducible refine rd_id ?_);(apply rd_len;exact rfl;exact rfl;assumption)))<;>(conv=>whnf)))
    all_goals first
     |(refine ps_val (v':= .bool false) rfl ⟨?_,hp.chg⟩
       rw [rightP_no hlt (by rw [tierOk_zero hxx,decide_eq_false (by omega)])])
     |exact lp_next 1 (by omega) (by (repeat' (first|exact trivial|(refine ⟨rfl,?_⟩)))) ⟨by omega,next (w:=w) (by rw [tierOk_zero hxx,decide_eq_true (by omega)]),hp.tail⟩
   |succ k=>
    obtain ⟨y,hy⟩:∃y,p.l[k]? =some y:=⟨_,List.getElem?_eq_getElem (by omega)⟩
    ((conv=>whnf);repeat' ((first|((with_reducible refine br_id ?_);first|(with_reducible refine br_t ?_)|(with_reducible refine br_f ?_)|((with_reducible refine br_dec (fun hx=>?_) (fun hx=>?_))<;>(try (exfalso;first|omega|contradiction))))|((with_reducible refine ar_id ?_);first|((refine ar_n (k) (by omega) (by omega) ?_))|(refine ar_i64 (by omega) ?_))|((with_reducible refine cn_id ?_);(refine cn rfl ?_))|((with_reducible refine ld_id ?_);first|((refine ld_row hp hB ‹_› ‹_› _ _ rfl ‹_› (by rfl) ?_))|(apply ld_hs hp;(focus repeat' constructor);exact rfl))|((with_reducible refine ldn_id ?_);((refine ldn_rowx hp hB ‹_› ‹_› _ rfl ‹_› rfl ?_)))|((with_reducible refine al_id ?_);(refine al_cel hp ?_;clear hp;intro bb w hp))|((with_reducible refine st_id ?_);(apply sta_hs hp;(focus repeat' constructor);exact rfl;exact rfl;clear hp;intro w hp;(try dsimp only [List.set] at hp)))|((with_reducible refine gen_id ?_);((refine gen_ixs rfl rfl ‹_› rfl rfl (by omega) ?_)))|((with_reducible refine dr_id ?_);(refine dr_auto tabOk (by kernel_rfl) (by decide+kernel) ?_;(try replace hp:=hp.drew)))|((with_reducible refine rd_id ?_);first|((refine rd_ixs rfl rfl ‹_› rfl rfl (by omega) ?_))|(apply rd_len;exact rfl;exact rfl;assumption)))<;>(conv=>whnf)))
    all_goals first
     |(refine ps_val (v':= .bool false) rfl ⟨?_,hp.chg⟩
       rw [rightP_no hlt (by rw [tierOk_succ hxx hy,decide_eq_false (by omega),Bool.false_and])])
     |(refine ps_val (v':= .bool false) rfl ⟨?_,hp.chg⟩
       rw [rightP_no hlt (by rw [tierOk_succ hxx hy,decide_eq_false (p:=y.fee.toNat < x.fee.toNat) (by omega),Bool.and_false])])
     |exact lp_next (k+1+1) (by omega) (by (repeat' (first|exact trivial|(refine ⟨rfl,?_⟩)))) ⟨by omega,next (w:=w) (by rw [tierOk_succ hxx hy,decide_eq_true (by omega),decide_eq_true (p:=y.fee.toNat < x.fee.toNat) (by omega)];rfl),hp.tail⟩
  ·((conv=>whnf);repeat' (((with_reducible refine br_id ?_);((with_reducible refine br_dec (fun hx=>?_) (fun hx=>?_))<;>(try (exfalso;first|omega|contradiction))))<;>(conv=>whnf)))
   refine ps_val (v':= .bool true) rfl ⟨?_,hp.chg⟩
   have:rightP p=true:=by
    unfold rightP
    rw [decide_eq_true (by omega),Bool.true_and,List.all_eq_true]
    intro j hj
    exact hall j (by have:=List.mem_range.1 hj;omega)
   rw [this]
end Go.Proofs.YteabebmlclgakaaGreat
/- Pay4: a payload's bytes; the document's example. -/
namespace Go.Proofs.YteabebmlclgakaaGreat
open Go.RowKit
set_option maxRecDepth 100000
set_option maxHeartbeats 2000000
end Go.Proofs.YteabebmlclgakaaGreat
/- Str: bytes as strings, compared, in reading operations. No condition. -/
namespace Go.Proofs.YteabebmlclgakaaGreat
open Go.RowKit
set_option maxRecDepth 100000
set_option maxHeartbeats 2000000
theorem rd_streq {P:Program} {w:World} {ρ:Operand→Value} {o:Oper} {g:Value→Prop} {op:BinOp} {t t2:TypeId} {x y:Operand} (hop:o.op= .binOp op t x y t2) {a b:List UInt8} (hx:ρ x=str a) (hy:ρ y=str b) (ho:op= .eql∨op= .neq) (hk:g (.bool (if op= .eql then decide (a=b) else !decide (a=b)))):Rd P ρ o w g:=by
 have hg:∀op,eqGuard op t x y (str a) (str b)=pure ():=fun op=>by cases op<;>simp [eqGuard]
 rcases ho with rfl|rfl
 ·refine rd_bin hop (by rw [hx,hy];exact hg _) (fun w'=>?_) hk
  simp only [hx,hy,binOp_string_eql,bytes_eq,Sem.run_pure]
  rfl
 ·refine rd_bin hop (by rw [hx,hy];exact hg _) (fun w'=>?_) hk
  simp only [hx,hy,binOp_string_neq,bytes_eq,Sem.run_pure]
  rfl
end Go.Proofs.YteabebmlclgakaaGreat
/- PaySameR: whether two payloads are the same, by the document. -/
namespace Go.Proofs.YteabebmlclgakaaGreat
open Go.RowKit
set_option maxRecDepth 100000
set_option maxHeartbeats 2000000
def tk (t:Tier):UInt32×List UInt8:=(t.fee,t.tx.l)
end Go.Proofs.YteabebmlclgakaaGreat
/- PaySame: whether two payloads are the same, by the program. -/
namespace Go.Proofs.YteabebmlclgakaaGreat
open Go.RowKit
set_option maxRecDepth 100000
set_option maxHeartbeats 2000000
end Go.Proofs.YteabebmlclgakaaGreat
/- PayRs: a payload of the call's own. -/
namespace Go.Proofs.YteabebmlclgakaaGreat
open Go.RowKit
set_option maxRecDepth 100000
set_option maxHeartbeats 2000000
abbrev txR (t:Tier):Res:=rowR 5 1 u8L t.tx
abbrev payRs (r:Payload):List Res:=rowR 51 2 Tier.c r::r.l.map txR
theorem tierL_one {l:List Tier}:∀x∈l,∀u∈Tier.c x,u.oneCell'=true:=fun x _ u hu=>by
 simp only [Tier.c,List.mem_cons,List.not_mem_nil,or_false] at hu
 rcases hu with rfl|rfl<;>rfl
theorem payRs_at {S:Nat→Prop} {w0 w:World} {rs:List Res} {r:Payload} (h:Hp S w0 w rs) (hs:(payRs r).Sublist rs):PayAt w.heap.size w r:=
 ⟨rowR_at (h.ok _ (hs.subset (List.mem_cons_self ..))),fun t ht=>rowR_at (h.ok _ (hs.subset (List.mem_cons_of_mem _ (List.mem_map_of_mem ht))))⟩
end Go.Proofs.YteabebmlclgakaaGreat
/- PayCopy: a payload in new memory. -/
namespace Go.Proofs.YteabebmlclgakaaGreat
open Go.RowKit
set_option maxRecDepth 100000
set_option maxHeartbeats 2000000
theorem copyp_any {B:Nat} {w0:World} {p:Payload} (h:PayAt B w0 p) (hBw:B≤w0.heap.size) (hf:fewP p=true):Calls Tryz.prog 47 #[p.pv] w0 fun e w'=>∃r:Payload,r.l.map tk=p.l.map tk∧e= .returned r.pv∧Made (star (payRs r)) w0 w':=by
 obtain ⟨hf1,hf2⟩:=fewP_at hf
 have hp:=Hp.start (S:=N0) w0
 have hB:∀b,N0 b→B≤b:=fun _ hh=>hh.elim
 have u1:=Tryz.underlying45
 refine calls_x (args:= [_]) tabOk Tryz.func47 Tryz.ntmps47 Tryz.results47 rfl (Nat.le_of_ble_eq_true rfl) ?_
 ((conv=>whnf);repeat' ((first|((with_reducible refine ld_id ?_);(apply ld_hs hp;(focus repeat' constructor);exact rfl))|((with_reducible refine al_id ?_);(refine al_cel hp ?_;clear hp;intro bb w hp))|((with_reducible refine gen_id ?_);(apply gen_len;exact rfl;exact rfl;assumption)))<;>(conv=>whnf)))
 obtain ⟨b3,hb3⟩:∃b,b=bb:=⟨_,rfl⟩
 subst hb3
 obtain ⟨b2,hb2⟩:∃b,b=bb:=⟨_,rfl⟩
 subst hb2
 have hp0:Hp N0 w0 w (cel b3 47 #[(Sl.nil:Payload).v]::cel b2 47 #[(Sl.nil:Payload).v]::payRs Sl.nil):=by
  have h1:=hp.new (Chg.refl _ _) (r:=rowR 51 2 Tier.c Sl.nil) (rowR_ok.2 ⟨World.ownsRow_nil w 0 _ _,by simp [Sl.nil]⟩) fun b hb=>by have h1:=rowR_dom.1 hb;cases h1
  exact (h1.sub (rs':= [_,_,_]) (List.Sublist.cons_cons _ (List.Sublist.cons_cons _ (List.Sublist.cons_cons _ (List.nil_sublist _))))).perm (List.perm_append_singleton _ [_,_]).symm
 clear hp
 refine lp_inv (α:=Nat×Payload) (fun a=> [(2,ptr b2),(3,ptr b3),(7,p.v),(8,i64 p.l.length),(9,i64 a.1)]) (fun a w=>a.1≤p.l.length∧a.2.l.map tk=(p.l.take a.1).map tk∧Hp N0 w0 w (cel b3 47 #[a.2.v]::cel b2 47 #[(Sl.nil:Payload).v]::payRs a.2)) (fun a=>p.l.length - a.1) (0,Sl.nil) (by (repeat' (first|exact trivial|(refine ⟨rfl,?_⟩)))) ⟨by omega,by simp [Sl.nil],hp0⟩ ?_
 clear hp0
 rintro ⟨i,r⟩ e0 w ⟨hi,hr,hp⟩
 dsimp only at hi hr hp ⊢
 have hrl:r.l.length=i:=by
  have:=congrArg List.length hr
  rw [List.length_map,List.length_map,List.length_take] at this
  omega
 rcases Nat.lt_or_ge i p.l.length with hlt|hge
 ·obtain ⟨b,o,x,hA,hb,hrow,hxx⟩:=h.row.has hlt
  have hmem:=List.mem_of_getElem? hxx
  have hx200:=hf1 x hmem
  have hx8:SlAt w.heap.size w u8L 1 x.tx:=((h.tx x hmem).keep hp.chg hB).more (Nat.le_trans hBw hp.chg.size)
  ((conv=>whnf);repeat' ((first|((with_reducible refine br_id ?_);((with_reducible refine br_dec (fun hx=>?_) (fun hx=>?_))<;>(try (exfalso;first|omega|contradiction))))|((with_reducible refine ar_id ?_);(refine ar_i64 (by omega) ?_))|((with_reducible refine cn_id ?_);first|(refine cn rfl ?_)|(refine cn ‹_› ?_))|((with_reducible refine ld_id ?_);(apply ld_hs hp;(focus repeat' constructor);exact rfl))|((with_reducible refine ldn_id ?_);((refine ldn_rowx hp hB ‹_› ‹_› _ rfl ‹_› rfl ?_)))|((with_reducible refine al_id ?_);(refine al_cel hp ?_;clear hp;intro bb w hp))|((with_reducible refine st_id ?_);(apply sta_hs hp;(focus repeat' constructor);exact rfl;exact rfl;clear hp;intro w hp;(try dsimp only [List.set] at hp)))|((with_reducible refine gen_id ?_);first|((refine gen_ixs rfl rfl ‹_› rfl rfl (by omega) ?_))|((refine gen_app0 rfl hp el_u8 rfl x.tx rfl (((h.tx x hmem).keep hp.chg hB).more (Nat.le_trans hBw hp.chg.size)) (fun _ _=>rfl) u8_one (by omega) (by simp only [maxLen];omega) ?_);clear hp;intro A1 c1 w hcc hp)|((refine gen_bs rfl hp el_tier Tier.c [⟨x.fee,⟨A1,c1,x.tx.l⟩⟩] [Tier.v ⟨x.fee,⟨A1,c1,x.tx.l⟩⟩] rfl rfl rfl (fun _ hh=>by simp at hh;subst hh;rfl) (by omega) ?_);clear hp;intro br w hp)|((refine gen_app (s:=r) rfl hp 5 rfl el_tier rfl ⟨some ⟨br,0,none⟩,1, [⟨x.fee,⟨A1,c1,x.tx.l⟩⟩]⟩ rfl (hp.row (j:=0) rfl) (fun _ _=>rfl) tierL_one (by simp only [List.length_cons,List.length_nil];omega) (by simp only [maxLen,List.length_cons,List.length_nil];omega) ?_);clear hp;intro A2 c2 w hp;dsimp only [List.set] at hp)|(apply gen_build;exact rfl;exact rfl))|((with_reducible refine dr_id ?_);((refine dr_autot tabOk (by kernel_rfl) (by decide+kernel) ?_);replace hp:=hp.drew)))<;>(conv=>whnf)))
  refine lp_next (i+1,⟨A2,c2,r.l++ [⟨x.fee,⟨A1,c1,x.tx.l⟩⟩]⟩) ?_ (by (repeat' (first|exact trivial|(refine ⟨rfl,?_⟩)))) ⟨by show i+1≤_;omega,?_,?_⟩
  ·show p.l.length - (i+1) < p.l.length - i;omega
  ·show (r.l++ [_]).map tk=_
   rw [List.take_add_one,hxx,List.map_append,List.map_append,hr]
   rfl
  ·have h1:=hp.sub (rs':=_::_::_::_::r.l.map txR) (List.Sublist.cons _ (List.Sublist.cons_cons _ (List.Sublist.cons _ (List.Sublist.refl _))))
   have h2:=h1.perm (List.perm_append_singleton _ _).symm
   show Hp N0 w0 w (_::_::_::(r.l++ [_]).map txR)
   rw [List.map_append]
   exact h2
 ·((conv=>whnf);repeat' ((first|((with_reducible refine br_id ?_);((with_reducible refine br_dec (fun hx=>?_) (fun hx=>?_))<;>(try (exfalso;first|omega|contradiction))))|((with_reducible refine cn_id ?_);(refine cn rfl ?_))|((with_reducible refine ldn_id ?_);(apply lda_hs hp;(focus repeat' constructor);exact rfl))|((with_reducible refine st_id ?_);(apply sta_hs hp;(focus repeat' constructor);exact rfl;exact rfl;clear hp;intro w hp;(try dsimp only [List.set] at hp))))<;>(conv=>whnf)))
  rw [List.take_of_length_le hge] at hr
  refine ps_val (v':=r.pv) rfl ⟨r,hr,rfl,hp.made (List.Sublist.cons _ (List.Sublist.cons _ (List.Sublist.refl _)))⟩
end Go.Proofs.YteabebmlclgakaaGreat
