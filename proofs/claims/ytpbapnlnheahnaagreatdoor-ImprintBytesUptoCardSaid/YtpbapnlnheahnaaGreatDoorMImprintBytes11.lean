/- MImprintBytes11: parts of the proof of ImprintBytes: Sha3, Prt, Out, Writer. No condition of their own. -/
import Derived.Test.YtpbapnlnheahnaaGreatDoorMImprintBytes10
import Derived.Test.YtpbapnlnheahnaaGreatDoorMImprintBytes6
import Derived.Test.YtpbapnlnheahnaaGreatDoorMImprintBytes8
import Derived.Test.YtpbapnlnheahnaaGreatDoorMImprintBytes9
set_option linter.unusedSimpArgs false
set_option linter.unusedVariables false
namespace Go.Proofs.YtpbapnlnheahnaaGreatDoor
open Go.RowKit
set_option maxRecDepth 100000
set_option maxHeartbeats 2000000
theorem end_any {w0:World} {b:Nat} {m:List UInt8} {r:Sl UInt8} (h:(star (hashRs b m r)).ok w0) (hr:r.l=restS m) (hm:m.length≤1000000):Calls Tryz.prog 196 #[ptr b] w0 fun e w'=>∃q:Sl UInt8,q.l=endS m.length∧e= .returned q.v∧Made (rowR 5 1 u8L q) w0 w':=by
 have hp:=Hp.start (S:=N0) w0
 have u1:=Tryz.underlying34
 have hrl:r.l.length=m.length % 64:=by rw [hr,restS_len]
 have hk:padK m.length < 64:=by unfold padK;omega
 have hb:=cel_ok.1 (((star_ok (rs:=hashRs b m r)).1 h).1 (cel b 317 (hashC m r).toArray) (by simp [hashRs]))
 have c8:w0.cell? ⟨b,8,none⟩=some r.v:=cell_of_heap hb rfl
 have c9:w0.cell? ⟨b,9,none⟩=some (.int .u64 (m.length:Int)):=cell_of_heap hb rfl
 refine calls_x (args:= [_]) tabOk Tryz.func196 Tryz.ntmps196 Tryz.results196 rfl (Nat.le_of_ble_eq_true rfl) ?_
 ((conv=>whnf);repeat' (((with_reducible apply gen_id);(refine gen_bs rfl hp el_u8 u8L (([128]:List UInt8)) ((([128]:List UInt8)).map u8) rfl rfl rfl (fun _ hh=>rfl) (by omega) ?_);clear hp;intro br w hp)<;>(conv=>whnf)))
 refine lp_inv (α:=Nat×Sl UInt8) (fun a=> [(0,ptr b),(3,a.2.v)]) (fun a w=>a.1≤padK m.length∧a.2.l=128::List.replicate a.1 0∧Hp N0 w0 w [rowR 5 1 u8L a.2]) (fun a=>padK m.length - a.1) (0,⟨some ⟨br,0,none⟩,1, [128]⟩) (by (repeat' (first|exact trivial|(refine ⟨rfl,?_⟩)))) ⟨by omega,rfl,hp⟩ ?_
 clear hp
 rintro ⟨k,q⟩ e0 w ⟨hkl,hq,hp⟩
 dsimp only at hkl hq hp ⊢
 have hql:q.l.length=1+k:=by rw [hq];simp;omega
 have hmod:=tmod_n (r.l.length+q.l.length+8) 64
 have hcast:((r.l.length:Int)+(q.l.length:Int)+8)=((r.l.length+q.l.length+8:Nat):Int):=by omega
 have c8':=hp.chg.cell0 c8
 have c9':=hp.chg.cell0 c9
 rcases Nat.lt_or_ge k (padK m.length) with hlt|hge
 ·have hne:(r.l.length+q.l.length+8) % 64≠0:=by unfold padK at hlt;omega
  ((conv=>whnf);repeat' ((first|((with_reducible apply br_id);(refine br_1 (by rw [hcast,show (64:Int)=((64:Nat):Int) from rfl,hmod];simp only [bne_iff_ne];omega) ?_))|((with_reducible apply ar_id);refine ar_i64 (by omega) ?_)|((with_reducible apply cn_id);refine cn (by omega) ?_)|((with_reducible apply ld_id);(refine ld_of c8' ?_))|((with_reducible apply gen_id);first|((refine gen_bs rfl hp el_u8 u8L (([0]:List UInt8)) ((([0]:List UInt8)).map u8) rfl rfl rfl (fun _ hh=>rfl) (by omega) ?_);clear hp;intro br w hp)|((refine gen_app (s:=q) rfl hp 1 rfl el_u8 rfl ⟨some ⟨br,0,none⟩,1,([0]:List UInt8)⟩ rfl (hp.row (j:=0) rfl) (fun _ _=>rfl) u8_one (by simp only [List.length_cons,List.length_nil];omega) (by simp only [maxLen,List.length_cons,List.length_nil];omega) ?_);clear hp;intro A2 c2 w hp;dsimp only [List.set] at hp)|(apply gen_len;exact rfl;exact rfl;assumption)))<;>(conv=>whnf)))
  refine lp_next (k+1,⟨A2,c2,q.l++ [0]⟩) ?_ (by (repeat' (first|exact trivial|(refine ⟨rfl,?_⟩)))) ⟨by show k+1≤_;omega,by show q.l++ [0]=_;rw [hq,List.cons_append,←List.replicate_succ'],hp.sub (List.sublist_cons_self _ _)⟩
  show padK m.length - (k+1) < padK m.length - k
  omega
 ·obtain rfl:k=padK m.length:=by omega
  have he:(r.l.length+q.l.length+8) % 64=0:=by unfold padK at hql;omega
  ((conv=>whnf);repeat' ((first|((with_reducible apply br_id);(refine br_0 (by rw [hcast,show (64:Int)=((64:Nat):Int) from rfl,hmod,he];rfl) ?_))|((with_reducible apply ar_id);first|(refine ar_u4 (8*m.length / 2 ^ 32) rfl ?_)|(refine ar_u4 (8*m.length) rfl ?_)|refine ar_i64 (by omega) ?_|refine ar_u64 (by omega) ?_)|((with_reducible apply cn_id);refine cn (by omega) ?_)|((with_reducible apply ld_id);first|(refine ld_of c8' ?_)|(refine ld_of c9' ?_))|((with_reducible apply gen_id);first|(refine gen_shr64 rfl (8*m.length) 32 rfl rfl rfl (by omega) ?_)|((refine gen_bs rfl hp el_u4 u4L ([UInt32.ofNat (8*m.length / 2 ^ 32),UInt32.ofNat (8*m.length)]) (([UInt32.ofNat (8*m.length / 2 ^ 32),UInt32.ofNat (8*m.length)]).map u4) rfl rfl rfl (fun _ hh=>rfl) (by omega) ?_);clear hp;intro br w hp)|(apply gen_len;exact rfl;exact rfl;assumption)))<;>(conv=>whnf)))
  refine cl_of (bytes_any (s:=⟨some ⟨br,0,none⟩,2, [UInt32.ofNat (8*m.length / 2 ^ 32),UInt32.ofNat (8*m.length)]⟩) (hp.row (j:=0) rfl) (Nat.le_of_ble_eq_true rfl)) ?_
  rintro e w ⟨x,hx,rfl,hmd⟩
  replace hp:=hp.add hmd
  clear hmd
  refine ⟨_,rfl,?_⟩
  have hxl:x.l.length=8:=by rw [hx,bytesOf_len];rfl
  ((conv=>whnf);repeat' (((with_reducible apply gen_id);(refine gen_app (s:=q) rfl hp 2 rfl el_u8 rfl (x) rfl ((hp.row (j:=0) rfl)) (fun _ _=>rfl) u8_one (by (try simp only [List.length_append,List.length_cons,List.length_nil,List.length_map,List.length_replicate,maxLen]);omega) (by (try simp only [List.length_append,List.length_cons,List.length_nil,List.length_map,List.length_replicate,maxLen]);omega) ?_);clear hp;intro A2 c2 w hp;dsimp only [List.set] at hp)<;>(conv=>whnf)))
  refine ps_val (v':=(Sl.mk A2 c2 (q.l++x.l)).v) rfl ⟨⟨A2,c2,q.l++x.l⟩,?_,rfl,hp.made1 (j:=2) rfl⟩
  show q.l++x.l=_
  rw [hq,hx,be8_of _ (by omega),endS,Nat.mod_eq_of_lt (by omega:8*m.length < 2 ^ 64)]
  rfl
theorem clone_any {w0:World} {b:Nat} {m:List UInt8} {r:Sl UInt8} (h:(star (hashRs b m r)).ok w0) (hr:r.l=restS m):Calls Tryz.prog 195 #[ptr b] w0 fun e w'=>∃b' r',r'.l=r.l∧e= .returned (ptr b')∧Made (star (hashRs b' m r')) w0 w':=by
 have hp:=Hp.start (S:=N0) w0
 have hrl:r.l.length=m.length % 64:=by rw [hr,restS_len]
 have hb:=cel_ok.1 (((star_ok (rs:=hashRs b m r)).1 h).1 (cel b 317 (hashC m r).toArray) (by simp [hashRs]))
 have hrow:=rowR_at (((star_ok (rs:=hashRs b m r)).1 h).1 (rowR 5 1 u8L r) (by simp [hashRs]))
 have c8:w0.cell? ⟨b,8,none⟩=some r.v:=cell_of_heap hb rfl
 refine calls_x (args:= [_]) tabOk Tryz.func195 Tryz.ntmps195 Tryz.results195 rfl (Nat.le_of_ble_eq_true rfl) ?_
 ((conv=>whnf);repeat' ((first|((with_reducible apply br_id);with_reducible refine br_f ?_)|((with_reducible apply cn_id);refine cn rfl ?_)|((with_reducible apply ld_id);(refine ld_of (hp.chg.cell0 c8) ?_))|((with_reducible apply ldn_id);(refine ldn_of (cs:=hashC m r) rfl (fun i v hv=>by rw [add_plain,Nat.zero_add];exact hp.chg.cell0 (cell_of_heap hb (by simpa using hv))) ?_))|((with_reducible apply al_id);refine al_cel hp ?_;clear hp;intro bb w hp)|((with_reducible apply st_id);first|(apply sta_hs hp;(focus repeat' constructor);exact rfl;exact rfl;clear hp;intro w hp;(try dsimp only [List.set] at hp))|(apply st_hs hp;(focus repeat' constructor);exact rfl;exact rfl;clear hp;intro w hp;(try dsimp only [List.set] at hp)))|((with_reducible apply gen_id);(refine gen_app0 rfl hp el_u8 rfl (r) rfl ((hrow.keep hp.chg fun _ hh=>hh.elim)) (fun _ _=>rfl) u8_one (by (try simp only [List.length_append,List.length_cons,List.length_nil,List.length_map,List.length_replicate,maxLen]);omega) (by (try simp only [List.length_append,List.length_cons,List.length_nil,List.length_map,List.length_replicate,maxLen]);omega) ?_);clear hp;intro A2 c2 w hcc hp))<;>(conv=>whnf)))
 exact ps_of ⟨bb,⟨A2,c2,r.l⟩,rfl,rfl,(hp.perm (.swap ..)).made (.refl _)⟩
theorem hsum_any {w0:World} {b:Nat} {m:List UInt8} {r:Sl UInt8} (h:(star (hashRs b m r)).ok w0) (hr:r.l=restS m) (hm:m.length≤900000):Calls Tryz.prog 192 #[ptr b] w0 fun e w'=>e= .returned (shaV m).v∧Chg N0 w0 w':=by
 have hp:=Hp.start (S:=N0) w0
 refine calls_x (args:= [_]) tabOk Tryz.func192 Tryz.ntmps192 Tryz.results192 rfl (Nat.le_of_ble_eq_true rfl) ?_
 ((conv=>whnf);repeat' (((with_reducible apply al_id);refine al_cel hp ?_;clear hp;intro bb w hp)<;>(conv=>whnf)))
 refine cl_of (clone_any ((star (hashRs b m r)).keep0 h hp.chg) hr) ?_
 rintro e w ⟨b',r',hr',rfl,hmd⟩
 replace hp:=hp.add hmd
 clear hmd
 refine ⟨_,rfl,?_⟩
 ((conv=>whnf);repeat' (((with_reducible apply br_id);with_reducible refine br_f ?_)<;>(conv=>whnf)))
 refine cl_of (end_any (hp.get (j:=0) rfl) (hr'.trans hr) (by omega)) ?_
 rintro e w ⟨q,hq,rfl,hmd⟩
 replace hp:=hp.add hmd
 clear hmd
 refine ⟨_,rfl,?_⟩
 have hql:q.l.length≤200:=by
  rw [hq]
  simp only [endS,be8,List.length_append,List.length_cons,List.length_replicate,List.length_nil,padK]
  omega
 have hsep:q.l≠ []→∀k o,q.A=some ⟨k,o,none⟩→¬(star (hashRs b' m r')).dom k:=fun _ k o hA=>(List.pairwise_cons.1 hp.sep).1 (star (hashRs b' m r')) (by simp) k (rowR_dom.2 (by simp [Sl.v,Value.ownBlock,hA]))
 ((conv=>whnf))
 refine cl_of (write_any (hp.get (j:=1) rfl) (hr'.trans hr) (by omega) (hp.row (j:=0) rfl) (by omega) hsep) ?_
 rintro e w ⟨r2,hr2,rfl,hmd⟩
 replace hp:=hp.via (j:=1) rfl hmd
 dsimp only [List.set] at hp
 clear hmd hsep
 refine ⟨_,rfl,?_⟩
 replace hp:=(hp.perm (.swap ..)).unfold
 dsimp only [List.cons_append,List.nil_append] at hp
 obtain ⟨S2,hS2⟩:∃S2,doneS (m++q.l)=S2:=⟨_,rfl⟩
 ((conv=>whnf);repeat' ((first|((with_reducible apply dr_id);refine dr_autog tabOk (by kernel_rfl) (by decide+kernel) ?_;(try replace hp:=hp.drew))|((with_reducible apply rd_id);first|(refine rd_arr rfl Tryz.underlying48 rfl rfl (List.replicate 32 (0:UInt8)) rfl ?_)|(refine rd_arr rfl Tryz.underlying314 rfl rfl (doneS (m++q.l)).l rfl ?_)))<;>(conv=>whnf)))
 have hsl:=cel_slat (enc:=u4L) (sz:=1) (ofs:=0) (l:=(doneS (m++q.l)).l) hp (j:=0) rfl (fun _ _=>rfl) rfl (Nat.le_of_ble_eq_true rfl)
 refine cl_of (bytes_any (s:=arrS b' 0 (doneS (m++q.l)).l) hsl (Nat.le_of_ble_eq_true rfl)) ?_
 rintro e w ⟨x,hx,rfl,hmd⟩
 replace hp:=hp.add hmd
 have hcc:=hmd.chg
 clear hmd hsl
 refine ⟨_,rfl,?_⟩
 have hX:x.l=shaL m:=by rw [hx,sha_of,←hq];rfl
 have hXl:x.l.length=32:=by rw [hX,shaL_len]
 ((conv=>whnf);repeat' ((first|((with_reducible apply cn_id);refine cn ‹_› ?_)|((with_reducible apply gen_id);(refine gen_copy rfl hp 4 rfl el_u8 rfl x rfl (hp.row (j:=0) rfl) (fun hh=>by rw [hh] at hXl;cases hXl) (fun _ _=>rfl) u8_one (n:=32) (by rw [hXl];rfl) (by decide) ?_);clear hp;intro w hp;dsimp only [List.set] at hp))<;>(conv=>whnf)))
 have hcs:(List.take 0 (rep 32 i_u8).cells.toList++List.flatMap u8L (List.take 32 x.l)++List.drop (0+32) (rep 32 i_u8).cells.toList).toArray=(idOf x.l hXl).c.toArray:=by
  rw [List.take_of_length_le (l:=x.l) (by omega),flat_one,←idOf_c]
  simp only [arC,List.take_zero,List.nil_append]
  congr 1
  exact List.append_nil _
 rw [hcs] at hp
 clear hcs
 obtain ⟨X,hXX⟩:∃X,idOf x.l hXl=X:=⟨_,rfl⟩
 have hXV:X=shaV m:=by rw [←hXX];unfold shaV;congr 1
 rw [hXX] at hp
 ((conv=>whnf);repeat' ((first|((with_reducible apply cn_id);refine cn rfl ?_)|((with_reducible apply ldn_id);apply lda_hs hp;(focus repeat' constructor);exact rfl)|((with_reducible apply st_id);apply sta_hs hp;(focus repeat' constructor);exact rfl;exact rfl;clear hp;intro w hp;(try dsimp only [List.set] at hp)))<;>(conv=>whnf)))
 exact ps_val (v':=X.v) rfl ⟨by rw [hXV],hp.chg⟩
abbrev prtL (s:Sl UInt8):List Value:= [s.v]
theorem ssum_any {B:Nat} {w0:World} {ps:Sl (Sl UInt8)} (h:SlAt B w0 prtL 1 ps) (hBw:B≤w0.heap.size) (hps:∀s∈ps.l,SlAt B w0 u8L 1 s) (hn:(ps.l.flatMap (·.l)).length≤900000):Calls Tryz.prog 185 #[ps.v] w0 fun e w'=>e= .returned (shaV (ps.l.flatMap (·.l))).v∧Chg N0 w0 w':=by
 have hp:=Hp.start (S:=N0) w0
 have hB:∀b,N0 b→B≤b:=fun _ hh=>hh.elim
 have u1:=Tryz.underlying230
 have hmax:ps.l.length≤9223372036854775807:=by have:=h.le;have:=h.max;simp only [maxLen] at this;omega
 refine calls_x (args:= [_]) tabOk Tryz.func185 Tryz.ntmps185 Tryz.results185 rfl (Nat.le_of_ble_eq_true rfl) ?_
 ((conv=>whnf);repeat' (((with_reducible apply al_id);refine al_cel hp ?_;clear hp;intro bb w hp)<;>(conv=>whnf)))
 refine cl_of new_any ?_
 rintro e w ⟨b,rfl,hmd⟩
 replace hp:=hp.add hmd
 clear hmd
 refine ⟨_,rfl,?_⟩
 obtain ⟨b2,hb2⟩:∃b2,b2=bb:=⟨_,rfl⟩
 subst hb2
 ((conv=>whnf);repeat' (((with_reducible apply gen_id);apply gen_len;exact rfl;exact rfl;assumption)<;>(conv=>whnf)))
 refine lp_inv (α:=Nat×Sl UInt8) (fun a=> [(2,ptr b2),(3,ptr b),(7,ps.v),(8,i64 ps.l.length),(9,i64 a.1)]) (fun a w=>a.1≤ps.l.length∧a.2.l=restS ((ps.l.take a.1).flatMap (·.l))∧Hp N0 w0 w [star (hashRs b ((ps.l.take a.1).flatMap (·.l)) a.2),cel b2 48 (rep 32 i_u8).cells]) (fun a=>ps.l.length - a.1) (0,Sl.nil) (by (repeat' (first|exact trivial|(refine ⟨rfl,?_⟩)))) ⟨by omega,by simp only [List.take_zero,List.flatMap_nil];rfl,by simp only [List.take_zero,List.flatMap_nil];exact hp⟩ ?_
 clear hp
 rintro ⟨i,r⟩ e0 w ⟨hi,hr,hp⟩
 dsimp only at hi hr hp ⊢
 have hlen:((ps.l.take i).flatMap (·.l)).length≤900000:=by
  have h1:((ps.l.take i).flatMap (·.l))++((ps.l.drop i).flatMap (·.l))=ps.l.flatMap (·.l):=by rw [←List.flatMap_append,List.take_append_drop]
  have h2:=congrArg List.length h1
  rw [List.length_append] at h2
  omega
 rcases Nat.lt_or_ge i ps.l.length with hlt|hge
 ·obtain ⟨bb,o,x,hA,hb,hrow,hxx⟩:=h.has hlt
  have hmem:=List.mem_of_getElem? hxx
  have hxl:x.l.length≤900000:=by
   have h1:((ps.l.take i).flatMap (·.l))++((ps.l.drop i).flatMap (·.l))=ps.l.flatMap (·.l):=by rw [←List.flatMap_append,List.take_append_drop]
   rw [List.getElem?_eq_getElem hlt] at hxx
   have h3:=Option.some.inj hxx
   rw [List.drop_eq_getElem_cons hlt,List.flatMap_cons,h3] at h1
   have h2:=congrArg List.length h1
   rw [List.length_append,List.length_append] at h2
   omega
  have hxa:=hps x hmem
  ((conv=>whnf);repeat' ((first|((with_reducible apply br_id);(with_reducible refine br_dec (fun hx=>?_) (fun hx=>?_))<;>(try (exfalso;first|omega|exact absurd hx ‹_› |exact absurd ‹_› hx)))|((with_reducible apply ld_id);(refine ld_row0 hp hB ‹_› ‹_› _ rfl ‹_› (by rfl) ?_))|((with_reducible apply gen_id);(refine gen_ixs rfl rfl ‹_› rfl rfl (by omega) ?_)))<;>(conv=>whnf)))
  refine cl_of (write_any (hp.get (j:=0) rfl) hr (by omega) (hxa.keep hp.chg hB) (by omega) (fun hne k o hk hd=>?_)) ?_
  ·have h1:=(hp.own _ (by simp) k hd).resolve_left (fun hh=>hh)
   obtain ⟨b',o',h4,h5,_⟩:=hxa.row hne
   rw [hk] at h4
   cases h4
   omega
  ·rintro e w ⟨r2,hr2,rfl,hmd⟩
   replace hp:=hp.via (j:=0) rfl hmd
   dsimp only [List.set] at hp
   clear hmd
   refine ⟨_,rfl,?_⟩
   have htk:(ps.l.take (i+1)).flatMap (·.l)=(ps.l.take i).flatMap (·.l)++x.l:=by
    rw [List.take_add_one,hxx,List.flatMap_append]
    simp
   ((conv=>whnf);repeat' (((with_reducible apply ar_id);refine ar_i64 (by omega) ?_)<;>(conv=>whnf)))
   refine lp_next (i+1,r2) ?_ (by (repeat' (first|exact trivial|(refine ⟨rfl,?_⟩)))) ⟨by show i+1≤_;omega,by show r2.l=restS ((ps.l.take (i+1)).flatMap (·.l));rw [htk,hr2],?_⟩
   ·show ps.l.length - (i+1) < ps.l.length - i;omega
   ·show Hp N0 w0 w [star (hashRs b ((ps.l.take (i+1)).flatMap (·.l)) r2),_]
    rw [htk]
    exact hp
 ·rw [List.take_of_length_le hge] at hr hp hlen
  ((conv=>whnf);repeat' (((with_reducible apply br_id);(with_reducible refine br_dec (fun hx=>?_) (fun hx=>?_))<;>(try (exfalso;first|omega|exact absurd hx ‹_› |exact absurd ‹_› hx)))<;>(conv=>whnf)))
  refine cl_of (hsum_any (hp.get (j:=0) rfl) hr hlen) ?_
  rintro e w ⟨rfl,hc⟩
  replace hp:=hp.call0 hc
  refine ⟨_,rfl,?_⟩
  obtain ⟨X,hX⟩:∃X,shaV (ps.l.flatMap (·.l))=X:=⟨_,rfl⟩
  rw [hX]
  ((conv=>whnf);repeat' ((first|((with_reducible apply cn_id);refine cn rfl ?_)|((with_reducible apply ldn_id);apply lda_hs hp;(focus repeat' constructor);exact rfl)|((with_reducible apply st_id);apply sta_hs hp;(focus repeat' constructor);exact rfl;exact rfl;clear hp;intro w hp;(try dsimp only [List.set] at hp)))<;>(conv=>whnf)))
  exact ps_val (v':=X.v) rfl ⟨rfl,hp.chg⟩
theorem el_prt:ElT Tryz.prog 230 34 1 24:=elt_of (z:= .slice none 0 0) Tryz.underlying230 (by kernel_rfl) rfl (by omega)
theorem ld_rowat0 {α:Type} {w:World} {enc:α→List Value} {sz b o:Nat} {l:List α} (hr:RowAt w enc sz b o l) {a:Addr} {k:Value→Prop} (i:Nat) (ha:a=⟨b,o+i*sz,none⟩) {x:α} (hi:l[i]? =some x) {v:Value} (hv:(enc x)[0]? =some v) (hk:k v):Ld w a k:=by
 subst ha
 exact ld_of (hr i x hi 0 v hv) hk
structure SlOut {α:Type} (S:Nat→Prop) (B:Nat) (w:World) (enc:α→List Value) (sz:Nat) (s:Sl α):Prop where
 at_:SlAt B w enc sz s
 out:s.l≠ []→∀b o,s.A=some ⟨b,o,none⟩→¬S b
theorem SlOut.keep {α:Type} {S:Nat→Prop} {B:Nat} {w w':World} {enc:α→List Value} {sz:Nat} {s:Sl α} (h:SlOut S B w enc sz s) (hc:Chg S w w'):SlAt B w' enc sz s:=h.at_.keepS hc h.out
theorem out_row {α:Type} {S:Nat→Prop} {w0 w:World} {rs:List Res} {r:Res} {e:TypeId} {sz:Nat} {enc:α→List Value} {s:Sl α} (h:Hp S w0 w (rowR e sz enc s::rs)) (hr:r∈rs):SlOut r.dom w.heap.size w enc sz s:=
 ⟨h.row (j:=0) rfl,fun _ k o hA=>(List.pairwise_cons.1 h.sep).1 r hr k (rowR_dom.2 (by simp [Sl.v,Value.ownBlock,hA]))⟩
abbrev wrC (room:Nat) (s:Sl UInt8) (bad:Int):Array Value:= #[.bool true,i64 room,s.v,i64 bad]
abbrev wrRs (b room:Nat) (s:Sl UInt8) (bad:Int):List Res:= [cel b 174 (wrC room s bad),rowR 5 1 u8L s]
theorem wnew_any {w0:World} (n:Nat) (hn:n≤2000000000):Calls Tryz.prog 41 #[i64 n] w0 fun e w'=>∃b,e= .returned (ptr b)∧Made (star (wrRs b n Sl.nil 0)) w0 w':=by
 have hp:=Hp.start (S:=N0) w0
 have hm:max (n:Int) 0=n:=by omega
 refine calls_x (args:= [_]) tabOk Tryz.func41 Tryz.ntmps41 Tryz.results41 rfl (Nat.le_of_ble_eq_true rfl) ?_
 ((conv=>whnf);repeat' ((first|((with_reducible apply al_id);refine al_cel hp ?_;clear hp;intro bb w hp)|((with_reducible apply gen_id);first|(apply gen_build;exact rfl;exact rfl)|(apply gen_max;exact rfl;exact rfl;exact rfl)))<;>(conv=>whnf)))
 rw [hm] at hp
 have hp0:Hp N0 w0 w [rowR 5 1 u8L Sl.nil,cel bb 174 (wrC n Sl.nil 0)]:=hp.new (Chg.refl _ _) (rowR_ok.2 ⟨World.ownsRow_nil w 0 _ _,by simp [Sl.nil]⟩) fun b hb=>by have h1:=rowR_dom.1 hb;cases h1
 exact ps_of ⟨_,rfl,(hp0.perm (.swap ..)).made (.refl _)⟩
theorem wnone_any {w0:World} {b room:Nat} {A:Option Addr} {n c:Nat} {bad:Int} (h:w0.heap[b]? =some (.cells #[.bool true,i64 room, .slice A n c,i64 bad] 174)):Calls Tryz.prog 144 #[ptr b] w0 fun e w'=>e= .returned (.bool false)∧Chg N0 w0 w':=by
 have hp:=Hp.start (S:=N0) w0
 have c0:w0.cell? ⟨b,0,none⟩=some (.bool true):=cell_of_heap h rfl
 refine calls_x (args:= [_]) tabOk Tryz.func144 Tryz.ntmps144 Tryz.results144 rfl (Nat.le_of_ble_eq_true rfl) ?_
 ((conv=>whnf);repeat' ((first|((with_reducible apply br_id);with_reducible refine br_f ?_)|((with_reducible apply ld_id);refine ld_of ‹_› ?_))<;>(conv=>whnf)))
 exact ps_val (v':= .bool false) rfl ⟨rfl,hp.chg⟩
theorem wfail_any {w0:World} {b room:Nat} {A:Option Addr} {n c:Nat} (e:Int) (h:(cel b 174 #[.bool true,i64 room, .slice A n c,i64 0]).ok w0):Calls Tryz.prog 111 #[ptr b,i64 e] w0 fun r w'=>r= .returned (.tuple #[])∧Mut (cel b 174 #[.bool true,i64 room, .slice A n c,i64 0]) (cel b 174 #[.bool true,i64 room, .slice A n c,i64 e]) w0 w':=by
 have hp:=Hp.start1 h
 refine calls_x (args:= [_,_]) tabOk Tryz.func111 Tryz.ntmps111 Tryz.results111 rfl (Nat.le_of_ble_eq_true rfl) ?_
 ((conv=>whnf);repeat' ((first|((with_reducible apply br_id);first|with_reducible refine br_t ?_|with_reducible refine br_f ?_|with_reducible refine br_not ?_|((with_reducible refine br_eq (fun hx=>?_) (fun hx=>?_))<;>(try (exfalso;first|omega|exact absurd hx ‹_› |exact absurd ‹_› hx))))|((with_reducible apply cn_id);refine cn rfl ?_)|((with_reducible apply ld_id);apply ld_hs hp;(focus repeat' constructor);exact rfl)|((with_reducible apply st_id);apply st_hs hp;(focus repeat' constructor);exact rfl;exact rfl;clear hp;intro w hp;(try dsimp only [List.set] at hp))|((with_reducible apply cl_id);(refine cl_eq (wnone_any (cel_ok.1 (hp.get (j:=0) rfl))) rfl rfl ?_;rintro e w ⟨rfl,hcc⟩;replace hp:=hp.call0 hcc;refine ⟨_,rfl,?_⟩)))<;>(conv=>whnf)))
 exact ps_val (v':= .tuple #[]) rfl ⟨rfl,hp.shut1 (j:=0) rfl⟩
def putW (room:Nat) (l:List UInt8) (bad:Int) (fits:Bool) (ps:List UInt8):List UInt8×Int:=
 if bad≠0 then (l,bad) else if fits=false then (l,1) else if room < l.length+ps.length then (l,3) else (l++ps,0)
theorem wput_any {B:Nat} {w0:World} {b room:Nat} {s:Sl UInt8} {bad:Int} {ps:Sl (Sl UInt8)} (fits:Bool) (h:(star (wrRs b room s bad)).ok w0) (hps:SlOut (star (wrRs b room s bad)).dom B w0 prtL 1 ps) (hpx:∀x∈ps.l,SlOut (star (wrRs b room s bad)).dom B w0 u8L 1 x)
  (hn:(ps.l.flatMap (·.l)).length≤1000000) (hs:s.l.length≤1000000) (hr:room≤2000000000):Calls Tryz.prog 108 #[ptr b, .bool fits,ps.v] w0 fun e w'=>
  ∃s':Sl UInt8,s'.l=(putW room s.l bad fits (ps.l.flatMap (·.l))).1∧e= .returned (.tuple #[])∧Mut (star (wrRs b room s bad)) (star (wrRs b room s' (putW room s.l bad fits (ps.l.flatMap (·.l))).2)) w0 w':=by
 have hp:=Hp.open h
 have u1:=Tryz.underlying230
 have u2:=Tryz.underlying34
 have hmax:ps.l.length≤9223372036854775807:=by have:=hps.at_.le;have:=hps.at_.max;simp only [maxLen] at this;omega
 refine calls_x (args:= [_,_,_]) tabOk Tryz.func108 Tryz.ntmps108 Tryz.results108 rfl (Nat.le_of_ble_eq_true rfl) ?_
 ((conv=>whnf);repeat' ((first|((with_reducible apply br_id);first|with_reducible refine br_f ?_|((with_reducible refine br_ne (fun hx=>?_) (fun hx=>?_))<;>(try (exfalso;first|omega|exact absurd hx ‹_› |exact absurd ‹_› hx))))|((with_reducible apply ld_id);apply ld_hs hp;(focus repeat' constructor);exact rfl)|((with_reducible apply gen_id);apply gen_len;exact rfl;exact rfl;assumption)|((with_reducible apply cl_id);(refine cl_eq (wnone_any (cel_ok.1 (hp.get (j:=0) rfl))) rfl rfl ?_;rintro e w ⟨rfl,hcc⟩;replace hp:=hp.call0 hcc;refine ⟨_,rfl,?_⟩)))<;>(conv=>whnf)))
 ·have hb:bad≠0:=by simpa using hx
  refine ps_val (v':= .tuple #[]) rfl ⟨s,?_,rfl,?_⟩
  ·rw [putW,if_pos hb]
  ·rw [putW,if_pos hb]
   exact hp.shut (.refl _)
 ·have hb:bad=0:=by simpa using hx
  subst hb
  refine lp_inv (α:=Nat×Nat) (fun a=> [(0,ptr b),(1, .bool fits),(2,ps.v),(6,i64 a.2),(21,ps.v),(22,i64 ps.l.length),(23,i64 a.1)]) (fun a w=>a.1≤ps.l.length∧a.2=((ps.l.take a.1).flatMap (·.l)).length∧Hp (star (wrRs b room s 0)).dom w0 w (wrRs b room s 0)) (fun a=>ps.l.length - a.1) (0,0) (by (repeat' (first|exact trivial|(refine ⟨rfl,?_⟩)))) ⟨by omega,by simp,hp⟩ ?_
  clear hp
  rintro ⟨i,n⟩ e0 w ⟨hi,hnn,hp⟩
  dsimp only at hi hnn hp ⊢
  have hpart:∀i,((ps.l.take i).flatMap (·.l)).length≤1000000:=fun i=>by
   have h1:((ps.l.take i).flatMap (·.l))++((ps.l.drop i).flatMap (·.l))=ps.l.flatMap (·.l):=by rw [←List.flatMap_append,List.take_append_drop]
   have h2:=congrArg List.length h1
   rw [List.length_append] at h2
   omega
  rcases Nat.lt_or_ge i ps.l.length with hlt|hge
  ·obtain ⟨bb,o,x,hA,hbb,hrow,hxx⟩:=hps.at_.has hlt
   have hne:ps.l≠ []:=fun e=>by rw [e] at hlt;simp at hlt
   have hrow':=hrow.keep hp.chg (hps.out hne bb o hA)
   have htk:((ps.l.take (i+1)).flatMap (·.l)).length=n+x.l.length:=by
    rw [hnn,List.take_add_one,hxx,List.flatMap_append,List.length_append]
    simp
   have hb1:=hpart (i+1)
   ((conv=>whnf);repeat' ((first|((with_reducible apply br_id);(with_reducible refine br_dec (fun hx=>?_) (fun hx=>?_))<;>(try (exfalso;first|omega|exact absurd hx ‹_› |exact absurd ‹_› hx)))|((with_reducible apply ar_id);refine ar_i64 (by omega) ?_)|((with_reducible apply ld_id);(refine ld_rowat0 hrow' i rfl hxx rfl ?_))|((with_reducible apply gen_id);first|(refine gen_ixs rfl rfl hA rfl rfl (by omega) ?_)|(apply gen_len;exact rfl;exact rfl;assumption)))<;>(conv=>whnf)))
   exact lp_next (i+1,n+x.l.length) (by show ps.l.length - (i+1) < ps.l.length - i;omega) (by (repeat' (first|exact trivial|(refine ⟨rfl,?_⟩)))) ⟨by show i+1≤_;omega,htk.symm,hp⟩
  ·rw [List.take_of_length_le hge] at hnn
   cases fits with
   |false=>
    ((conv=>whnf);repeat' (((with_reducible apply br_id);first|with_reducible refine br_f ?_|with_reducible refine br_not ?_|((with_reducible refine br_dec (fun hx=>?_) (fun hx=>?_))<;>(try (exfalso;first|omega|exact absurd hx ‹_› |exact absurd ‹_› hx))))<;>(conv=>whnf)))
    refine cl_of (wfail_any 1 (hp.get (j:=0) rfl)) ?_
    rintro e w ⟨rfl,hm⟩
    replace hp:=hp.via (j:=0) rfl hm
    dsimp only [List.set] at hp
    refine ⟨_,rfl,?_⟩
    ((conv=>whnf))
    refine ps_val (v':= .tuple #[]) rfl ⟨s,?_,rfl,?_⟩
    ·rw [putW,if_neg (by simp),if_pos rfl]
    ·rw [putW,if_neg (by simp),if_pos rfl]
     exact hp.shut (.refl _)
   |true=>
    ((conv=>whnf);repeat' ((first|((with_reducible apply br_id);first|with_reducible refine br_t ?_|with_reducible refine br_not ?_|((with_reducible refine br_dec (fun hx=>?_) (fun hx=>?_))<;>(try (exfalso;first|omega|exact absurd hx ‹_› |exact absurd ‹_› hx))))|((with_reducible apply ar_id);refine ar_i64 (by omega) ?_)|((with_reducible apply ld_id);apply ld_hs hp;(focus repeat' constructor);exact rfl)|((with_reducible apply gen_id);apply gen_len;exact rfl;exact rfl;assumption)|((with_reducible apply dr_id);refine dr_auto tabOk (by kernel_rfl) (by decide+kernel) ?_;(try replace hp:=hp.drew))|((with_reducible apply rd_id);apply rd_len;exact rfl;exact rfl;assumption))<;>(conv=>whnf)))
    ·refine cl_of (wfail_any 3 (hp.get (j:=0) rfl)) ?_
     rintro e w ⟨rfl,hm⟩
     replace hp:=hp.via (j:=0) rfl hm
     dsimp only [List.set] at hp
     refine ⟨_,rfl,?_⟩
     ((conv=>whnf))
     refine ps_val (v':= .tuple #[]) rfl ⟨s,?_,rfl,?_⟩
     ·rw [putW,if_neg (by simp),if_neg (by simp),if_pos (by omega)]
     ·rw [putW,if_neg (by simp),if_neg (by simp),if_pos (by omega)]
      exact hp.shut (.refl _)
    ·have hroom:s.l.length+(ps.l.flatMap (·.l)).length≤room:=by omega
     refine lp_inv (α:=Nat×Sl UInt8) (fun a=> [(0,ptr b),(51,ps.v),(52,i64 ps.l.length),(53,i64 a.1)]) (fun a w=>a.1≤ps.l.length∧a.2.l=s.l++(ps.l.take a.1).flatMap (·.l)∧Hp (star (wrRs b room s 0)).dom w0 w (wrRs b room a.2 0)) (fun a=>ps.l.length - a.1) (0,s) (by (repeat' (first|exact trivial|(refine ⟨rfl,?_⟩)))) ⟨by omega,by simp,hp⟩ ?_
     clear hp
     rintro ⟨i,q⟩ e0 w ⟨hi,hq,hp⟩
     dsimp only at hi hq hp ⊢
     rcases Nat.lt_or_ge i ps.l.length with hlt|hge
     ·obtain ⟨bb,o,x,hA,hbb,hrow,hxx⟩:=hps.at_.has hlt
      have hmem:=List.mem_of_getElem? hxx
      have hne:ps.l≠ []:=fun e=>by rw [e] at hlt;simp at hlt
      have hrow':=hrow.keep hp.chg (hps.out hne bb o hA)
      have htk:(ps.l.take (i+1)).flatMap (·.l)=(ps.l.take i).flatMap (·.l)++x.l:=by
       rw [List.take_add_one,hxx,List.flatMap_append]
       simp
      have hb1:=hpart (i+1)
      have hb2:q.l.length+x.l.length≤2000000:=by
       rw [hq,List.length_append]
       rw [htk,List.length_append] at hb1
       omega
      ((conv=>whnf);repeat' ((first|((with_reducible apply br_id);(with_reducible refine br_dec (fun hx=>?_) (fun hx=>?_))<;>(try (exfalso;first|omega|exact absurd hx ‹_› |exact absurd ‹_› hx)))|((with_reducible apply ar_id);refine ar_i64 (by omega) ?_)|((with_reducible apply cn_id);refine cn rfl ?_)|((with_reducible apply ld_id);first|(refine ld_rowat0 hrow' i rfl hxx rfl ?_)|(apply ld_hs hp;(focus repeat' constructor);exact rfl))|((with_reducible apply st_id);apply st_hs hp;(focus repeat' constructor);exact rfl;exact rfl;clear hp;intro w hp;(try dsimp only [List.set] at hp))|((with_reducible apply gen_id);first|(refine gen_ixs rfl rfl hA rfl rfl (by omega) ?_)|((refine gen_app (s:=q) rfl hp 1 rfl el_u8 rfl (x) rfl (((hpx x hmem).keep hp.chg)) (fun _ _=>rfl) u8_one (by (try simp only [List.length_append,List.length_cons,List.length_nil,List.length_map,List.length_replicate,maxLen]);omega) (by (try simp only [List.length_append,List.length_cons,List.length_nil,List.length_map,List.length_replicate,maxLen]);omega) ?_);clear hp;intro A2 c2 w hp;dsimp only [List.set] at hp)))<;>(conv=>whnf)))
      refine lp_next (i+1,⟨A2,c2,q.l++x.l⟩) (by show ps.l.length - (i+1) < ps.l.length - i;omega) (by (repeat' (first|exact trivial|(refine ⟨rfl,?_⟩)))) ⟨by show i+1≤_;omega,?_,hp⟩
      show q.l++x.l=s.l++(ps.l.take (i+1)).flatMap (·.l)
      rw [htk,hq,List.append_assoc]
     ·rw [List.take_of_length_le hge] at hq
      ((conv=>whnf);repeat' (((with_reducible apply br_id);(with_reducible refine br_dec (fun hx=>?_) (fun hx=>?_))<;>(try (exfalso;first|omega|exact absurd hx ‹_› |exact absurd ‹_› hx)))<;>(conv=>whnf)))
      refine ps_val (v':= .tuple #[]) rfl ⟨q,?_,rfl,?_⟩
      ·rw [putW,if_neg (by simp),if_neg (by simp),if_neg (by omega),hq]
      ·rw [putW,if_neg (by simp),if_neg (by simp),if_neg (by omega)]
       exact hp.shut (.refl _)
theorem wbytes_any {B:Nat} {w0:World} {b room:Nat} {s x:Sl UInt8} {bad:Int} (h:(star (wrRs b room s bad)).ok w0) (hx:SlOut (star (wrRs b room s bad)).dom B w0 u8L 1 x) (hBw:B≤w0.heap.size) (hn:x.l.length≤1000000) (hs:s.l.length≤1000000) (hr:room≤2000000000):
  Calls Tryz.prog 112 #[ptr b,x.v] w0 fun e w'=>∃s':Sl UInt8,s'.l=(putW room s.l bad true x.l).1∧e= .returned (.tuple #[])∧Mut (star (wrRs b room s bad)) (star (wrRs b room s' (putW room s.l bad true x.l).2)) w0 w':=by
 have hp:=Hp.start1 h
 refine calls_x (args:= [_,_]) tabOk Tryz.func112 Tryz.ntmps112 Tryz.results112 rfl (Nat.le_of_ble_eq_true rfl) ?_
 ((conv=>whnf);repeat' (((with_reducible apply gen_id);(refine gen_bs rfl hp el_prt prtL [x] [x.v] rfl rfl rfl (fun _ hh=>by simp at hh;subst hh;rfl) (by omega) ?_);clear hp;intro br w hp)<;>(conv=>whnf)))
 have hl:(Sl.mk (some ⟨br,0,none⟩) 1 [x]).l.flatMap (fun x=>x.l)=x.l:=List.append_nil _
 refine cl_of (wput_any (B:=w.heap.size) (ps:=⟨some ⟨br,0,none⟩,1, [x]⟩) true (hp.get (j:=1) rfl) (out_row hp (by simp)) (fun y hy=>?_) (by rw [hl];exact hn) hs hr) ?_
 ·simp at hy
  subst hy
  exact ⟨(hx.keep hp.chg).more (Nat.le_trans hBw hp.chg.size),hx.out⟩
 rw [hl]
 rintro e w ⟨s',hs',rfl,hm⟩
 replace hp:=hp.via (j:=1) rfl hm
 dsimp only [List.set] at hp
 refine ⟨_,rfl,?_⟩
 ((conv=>whnf))
 exact ps_val (v':= .tuple #[]) rfl ⟨s',hs',rfl,hp.shut1 (j:=1) rfl⟩
theorem werr_any {w0:World} {b room:Nat} {A:Option Addr} {n c:Nat} {bad:Int} (h:w0.heap[b]? =some (.cells #[.bool true,i64 room, .slice A n c,i64 bad] 174)):Calls Tryz.prog 114 #[ptr b] w0 fun e w'=>e= .returned (i64 bad)∧Chg N0 w0 w':=by
 have hp:=Hp.start (S:=N0) w0
 have c3:w0.cell? ⟨b,3,none⟩=some (i64 bad):=cell_of_heap h rfl
 refine calls_x (args:= [_]) tabOk Tryz.func114 Tryz.ntmps114 Tryz.results114 rfl (Nat.le_of_ble_eq_true rfl) ?_
 ((conv=>whnf);repeat' ((first|((with_reducible apply br_id);with_reducible refine br_f ?_)|((with_reducible apply ld_id);(refine ld_of (hp.chg.cell0 c3) ?_))|((with_reducible apply cl_id);(refine cl_eq (wnone_any (hp.chg.heap0 h)) rfl rfl ?_;rintro e w ⟨rfl,hcc⟩;replace hp:=hp.call0 hcc;refine ⟨_,rfl,?_⟩)))<;>(conv=>whnf)))
 exact ps_val (v':=i64 bad) rfl ⟨rfl,hp.chg⟩
theorem wdone_any {w0:World} {b room:Nat} {s:Sl UInt8} {bad:Int} (h:(star (wrRs b room s bad)).ok w0) (hs:s.l.length≤1000000):Calls Tryz.prog 57 #[ptr b] w0 fun e w'=>∃r:Sl UInt8,r.l=(if bad=0 then s.l else [])∧e= .returned (.tuple #[r.v,i64 bad])∧Made (rowR 5 1 u8L r) w0 w':=by
 have hp:=Hp.start (S:=N0) w0
 have hb:=cel_ok.1 (((star_ok (rs:=wrRs b room s bad)).1 h).1 (cel b 174 (wrC room s bad)) (by simp [wrRs]))
 have hrow:=rowR_at (((star_ok (rs:=wrRs b room s bad)).1 h).1 (rowR 5 1 u8L s) (by simp [wrRs]))
 have c2:w0.cell? ⟨b,2,none⟩=some s.v:=cell_of_heap hb rfl
 refine calls_x (args:= [_]) tabOk Tryz.func57 Tryz.ntmps57 Tryz.results57 rfl (Nat.le_of_ble_eq_true rfl) ?_
 ((conv=>whnf);repeat' ((first|((with_reducible apply br_id);(with_reducible refine br_ne (fun hx=>?_) (fun hx=>?_))<;>(try (exfalso;first|omega|exact absurd hx ‹_› |exact absurd ‹_› hx)))|((with_reducible apply ld_id);(refine ld_of (hp.chg.cell0 c2) ?_))|((with_reducible apply gen_id);(refine gen_app0 rfl hp el_u8 rfl (s) rfl ((hrow.keep hp.chg fun _ hh=>hh.elim)) (fun _ _=>rfl) u8_one (by (try simp only [List.length_append,List.length_cons,List.length_nil,List.length_map,List.length_replicate,maxLen]);omega) (by (try simp only [List.length_append,List.length_cons,List.length_nil,List.length_map,List.length_replicate,maxLen]);omega) ?_);clear hp;intro A2 c2 w hcc hp)|((with_reducible apply cl_id);(refine cl_eq (werr_any (hp.chg.heap0 hb)) rfl rfl ?_;rintro e w ⟨rfl,hcc⟩;replace hp:=hp.call0 hcc;refine ⟨_,rfl,?_⟩)))<;>(conv=>whnf)))
 ·have hb0:¬bad=0:=by simpa using hx
  have hp0:Hp N0 w0 w [rowR 5 1 u8L Sl.nil]:=hp.new (Chg.refl _ _) (rowR_ok.2 ⟨World.ownsRow_nil w 0 _ _,by simp [Sl.nil]⟩) fun b hb=>by have h1:=rowR_dom.1 hb;cases h1
  exact ps_val (v':= .tuple #[(Sl.nil (α:=UInt8)).v,i64 bad]) rfl ⟨Sl.nil,by rw [if_neg hb0];rfl,rfl,hp0.made1 (j:=0) rfl⟩
 ·have hb0:bad=0:=by simpa using hx
  subst hb0
  exact ps_val (v':= .tuple #[(Sl.mk A2 c2 s.l).v,i64 0]) rfl ⟨⟨A2,c2,s.l⟩,by rw [if_pos rfl],rfl,hp.made1 (j:=0) rfl⟩
end Go.Proofs.YtpbapnlnheahnaaGreatDoor
