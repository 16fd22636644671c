/- MImprintBytes19: parts of the proof of ImprintBytes: RdC, Blk, BlkD. No condition of their own. -/
import Derived.Test.YtpbapnlnheahnaaGreatDoorMImprintBytes18
import Derived.Test.YtpbapnlnheahnaaGreatDoorMImprintBytes14
import Derived.Test.YtpbapnlnheahnaaGreatDoorMImprintBytes7
import Derived.Test.YtpbapnlnheahnaaGreatDoorMImprintBytessSlice
set_option linter.unusedSimpArgs false
set_option linter.unusedVariables false
namespace Go.Proofs.YtpbapnlnheahnaaGreatDoor
open Go.RowKit Go.Stop
set_option maxRecDepth 100000
set_option maxHeartbeats 300000
theorem ar_q32 {a:Nat} (ha:a≤1000000) {f:Int→Prop} (h:f ((a / 32:Nat):Int)):Ar .i64 (Int.tdiv (a:Int) 32) f:=ar_i64 (show -9223372036854775808≤((a / 32:Nat):Int)∧((a / 32:Nat):Int)≤9223372036854775807 by omega) h
theorem gen_front32 {α:Type} {P:Program} {w:World} {ρ:Operand→Value} {o:Oper} {g:Value→World→Prop} {t e:TypeId} {sz bytes B:Nat} {enc:α→List Value} {x hi:Operand} (hop:o.op= .slice t x none (some hi) none) (hE:ElT P t e sz bytes) (s:Sl α) (hx:ρ x=s.v) (hc:SlAt B w enc sz s) {k:IntKind} {m:Int} (hh:ρ hi= .int k m) {h:Nat} (hm:m=h) (h2:h≤s.l.length) {b oo:Nat} (hA:s.A=some ⟨b,oo,none⟩) (hk:g (.slice (some ⟨b,oo,none⟩) h s.c) w):Gen P ρ o w g:=by
 refine gen_cuth hop hE s hx hc hh hm h2 ?_
 have h3:(s.cut sz 0 h).v= .slice (some ⟨b,oo,none⟩) h s.c:=by
  rw [Sl.v,Sl.cut_len h2]
  unfold Sl.cut
  simp only [hA,Nat.zero_mul,Nat.sub_zero,Option.map_some,add_plain,Nat.add_zero,ite_self]
 rw [h3]
 exact hk
theorem ldn_idat {w:World} {b o:Nat} {l:List UInt8} (hr:RowAt w u8L 1 b o l) (h:32≤l.length) {k:Value→Prop} (hk:k (Id.v (vecN 32 (l.take 32)))):LdN w ⟨b,o,none⟩ 32 k:=by
 refine ldn_of (cs:=Id.c (vecN 32 (l.take 32))) rfl (fun i v hi=>?_) hk
 rw [←idc_maps,vecN_list (by rw [List.length_take];omega),List.getElem?_map] at hi
 cases hx:(l.take 32)[i]? with
 |none=>rw [hx] at hi;cases hi
 |some x=>
  rw [hx] at hi
  cases hi
  have hi32:i < 32:=by
   have:=(List.getElem?_eq_some_iff.1 hx).1
   rw [List.length_take] at this
   omega
  rw [List.getElem?_take_of_lt hi32] at hx
  have:=hr i x hx 0 (u8 x) rfl
  rw [show o+i*1+0=o+i by omega] at this
  rw [add_plain]
  exact this
section
variable {w0 : World} {b p : Nat} {q : Sl UInt8} {f : Flt} {s : Rst}
theorem rv_bad {α:Type} {d:Except Int (α×Byt)} {e:Int} {x:α} (h:lft d= .error e):Rv d x:=fun a r hd=>by
 rw [hd] at h
 cases h
abbrev cntC:Cdc Nat:=chkC N1 fun n=>decide (n≤32)
theorem rcountI_any (hI:RdI q.l p (badE f) s) (hq:q.l.length≤1000000) (h:(star (rdRs b q p f)).ok w0):Calls Tryz.prog 120 #[ptr b,i64 1,i64 32] w0 fun r w'=>
  ∃(x p':Nat) (f':Flt),Rv (rdR cntC.dec s) x∧x≤32∧RdI q.l p' (badE f') (lft (rdR cntC.dec s))∧r= .returned (i64 x)∧Mut (star (rdRs b q p f)) (star (rdRs b q p' f')) w0 w':=by
 have hp:=Hp.start1 h
 refine calls_x (args:= [_,_,_]) tabOk Tryz.func120 Tryz.ntmps120 Tryz.results120 rfl (Nat.le_of_ble_eq_true rfl) ?_
 ((conv=>whnf))
 refine cl_eq (rnumI_any 1 N1 (fun _=>rfl) (by omega) hI hq (hp.get (j:=0) rfl)) rfl rfl ?_
 clear hI
 rintro r w ⟨N,p1,f1,hv,h256,hI,rfl,hm⟩
 replace hp:=hp.via (j:=0) rfl hm
 dsimp only [List.set] at hp
 clear hm
 refine ⟨_,rfl,?_⟩
 have h256:N < 256:=h256
 have hl:=lft_chk (p:=fun n=>decide (n≤32)) hv
 have hv2:Rv (rdR cntC.dec s) N:=rv_chk hv
 ((conv=>whnf);repeat' ((first|((with_reducible apply br_id);first|with_reducible refine br_f ?_|((with_reducible refine br_dec (fun hx=>?_) (fun hx=>?_))<;>(try (exfalso;first|omega|contradiction))))|((with_reducible apply ar_id);refine ar_u64 (by omega) ?_))<;>(conv=>whnf)))
 ·refine cl_eq (rfailI_any 4 (.inr (by omega)) hI (hp.get (j:=0) rfl)) rfl rfl ?_
  clear hI
  rintro r w ⟨f2,hI,rfl,hm⟩
  replace hp:=hp.via (j:=0) rfl hm
  dsimp only [List.set] at hp
  clear hm
  refine ⟨_,rfl,?_⟩
  rw [if_neg (by simp;omega)] at hl
  rw [←hl] at hI
  obtain ⟨h0,_,_,h3⟩:=rd_cells (hp.get (j:=0) rfl)
  obtain ⟨w1,hw1⟩:∃w1,w1=w:=⟨_,rfl⟩
  rw [←hw1] at hp h0 h3
  have hq0:=hp
  clear hp
  have hp:Hp N0 w1 w []:=by rw [hw1];exact Hp.start _
  clear hw1
  rcases hI.is with ⟨hf2,he⟩|⟨e,hf2,he,_⟩
  ·rw [hl] at he
   cases hz:lft (rdR N1.dec s) with
   |error e=>rw [hz] at he;cases he
   |ok y=>rw [hz] at he;cases he
  cases f2 with
  |none=>cases hf2
  |some y=>
   obtain ⟨y1,y2,y3⟩:=y
   ((conv=>whnf);repeat' ((first|((with_reducible apply br_id);first|with_reducible refine br_t ?_|with_reducible refine br_f ?_)|((with_reducible apply ld_id);(refine ld_of (hp.chg.cell0 h3) ?_))|((with_reducible apply gen_id);(refine gen_bin (v:= .bool true) rfl (eqi_guardr ..) (by rfl) ?_))|((with_reducible apply cl_id);(refine cl_eq ((nonr_any b (hp.chg.cell0 h0))) rfl rfl ?_;rintro e w ⟨rfl,hcc⟩;replace hp:=hp.call0 hcc;refine ⟨_,rfl,?_⟩)))<;>(conv=>whnf)))
   exact ps_val (v':=i64 0) rfl ⟨0,_,some (y1,y2,y3),rv_bad he,by omega,hI,rfl,(hq0.call0 hp.chg).shut1 (j:=0) rfl⟩
 ·rw [if_pos (by simp;omega)] at hl
  have hI:RdI q.l p1 (badE f1) (lft (rdR cntC.dec s)):=by
   rw [hl]
   exact hI.fail0
  obtain ⟨h0,_,_,h3⟩:=rd_cells (hp.get (j:=0) rfl)
  obtain ⟨w1,hw1⟩:∃w1,w1=w:=⟨_,rfl⟩
  rw [←hw1] at hp h0 h3
  have hq0:=hp
  clear hp
  have hp:Hp N0 w1 w []:=by rw [hw1];exact Hp.start _
  clear hw1
  cases f1 with
  |some y=>
   obtain ⟨y1,y2,y3⟩:=y
   have hbad:∃e,lft (rdR cntC.dec s)= .error e:=by
    rcases hI.is with ⟨hf,_⟩|⟨e,_,he,_⟩
    ·cases hf
    ·exact ⟨e,he⟩
   obtain ⟨e,he⟩:=hbad
   ((conv=>whnf);repeat' ((first|((with_reducible apply br_id);first|with_reducible refine br_t ?_|with_reducible refine br_f ?_)|((with_reducible apply ld_id);(refine ld_of (hp.chg.cell0 h3) ?_))|((with_reducible apply gen_id);(refine gen_bin (v:= .bool true) rfl (eqi_guardr ..) (by rfl) ?_))|((with_reducible apply cl_id);(refine cl_eq ((nonr_any b (hp.chg.cell0 h0))) rfl rfl ?_;rintro e w ⟨rfl,hcc⟩;replace hp:=hp.call0 hcc;refine ⟨_,rfl,?_⟩)))<;>(conv=>whnf)))
   exact ps_val (v':=i64 0) rfl ⟨0,_,some (y1,y2,y3),rv_bad he,by omega,hI,rfl,(hq0.call0 hp.chg).shut1 (j:=0) rfl⟩
  |none=>
   ((conv=>whnf);repeat' ((first|((with_reducible apply br_id);with_reducible refine br_f ?_)|((with_reducible apply ar_id);refine ar_i64 (by omega) ?_)|((with_reducible apply ld_id);(refine ld_of (hp.chg.cell0 h3) ?_))|((with_reducible apply gen_id);(refine gen_bin (v:= .bool false) rfl (eqi_guard0 ..) (by rfl) ?_))|((with_reducible apply cl_id);(refine cl_eq ((nonr_any b (hp.chg.cell0 h0))) rfl rfl ?_;rintro e w ⟨rfl,hcc⟩;replace hp:=hp.call0 hcc;refine ⟨_,rfl,?_⟩)))<;>(conv=>whnf)))
   exact ps_val (v':=i64 N) rfl ⟨N,_,none,hv2,by omega,hI,rfl,(hq0.call0 hp.chg).shut1 (j:=0) rfl⟩
theorem left_any (hp0:p≤q.l.length) (hq:q.l.length≤1000000) (h:(star (rdRs b q p f)).ok w0):Calls Tryz.prog 81 #[ptr b] w0 fun r w'=>r= .returned (i64 ((q.l.length - p:Nat):Int))∧Chg N0 w0 w':=by
 obtain ⟨g0,g1,g2,g3⟩:=rd_cells h
 have hp:=Hp.start (S:=N0) w0
 have u2:=Tryz.underlying34
 clear h
 refine calls_x (args:= [_]) tabOk Tryz.func81 Tryz.ntmps81 Tryz.results81 rfl (Nat.le_of_ble_eq_true rfl) ?_
 ((conv=>whnf);repeat' ((first|((with_reducible apply br_id);with_reducible refine br_f ?_)|((with_reducible apply ar_id);(refine ar_n (q.l.length - p) (by omega) (by omega) ?_))|((with_reducible apply ld_id);first|(refine ld_of (hp.chg.cell0 g1) ?_)|(refine ld_of (hp.chg.cell0 g2) ?_))|((with_reducible apply dr_id);refine dr_auto tabOk (by kernel_rfl) (by decide+kernel) ?_;(try replace hp:=hp.drew))|((with_reducible apply cl_id);(refine cl_eq ((nonr_any b (hp.chg.cell0 g0))) rfl rfl ?_;rintro e w ⟨rfl,hcc⟩;replace hp:=hp.call0 hcc;refine ⟨_,rfl,?_⟩))|((with_reducible apply rd_id);apply rd_len;exact rfl;exact rfl;assumption))<;>(conv=>whnf)))
 exact ps_val (v':=i64 ((q.l.length - p:Nat):Int)) rfl ⟨rfl,hp.chg⟩
theorem repD_short {C:Cdc Id} (hC:∀l,C.dec l=if l.length < 32 then .error 2 else .ok (vecN 32 (l.take 32),l.drop 32)):∀(n:Nat) (l:Byt),l.length < 32*n→repD C n l= .error 2
 |0,l,h=>by omega
 |n+1,l,h=>by
  unfold repD
  rw [hC]
  by_cases h1:l.length < 32
  ·rw [if_pos h1]
  ·rw [if_neg h1]
   dsimp only
   rw [repD_short hC n (l.drop 32) (by rw [List.length_drop];omega)]
theorem idC_dec (l:Byt):idC.dec l=if l.length < 32 then .error 2 else .ok (vecN 32 (l.take 32),l.drop 32):=by
 unfold idC mapC fixC
 dsimp only
 split<;>rename_i hh
 ·split at hh
  ·rename_i h1
   cases hh
   rw [if_pos h1]
  ·cases hh
 ·split at hh
  ·cases hh
  ·rename_i h1
   cases hh
   rw [if_neg h1]
def chk (l:Byt) (i:Nat):List Id:=(List.range i).map fun k=>vecN 32 ((l.drop (32*k)).take 32)
theorem chk_snoc (l:Byt) (i:Nat):chk l (i+1)=chk l i++ [vecN 32 ((l.drop (32*i)).take 32)]:=by
 unfold chk
 rw [List.range_succ,List.map_append]
 rfl
theorem chk_cons (l:Byt) (i:Nat):chk l (i+1)=vecN 32 (l.take 32)::chk (l.drop 32) i:=by
 unfold chk
 rw [List.range_succ_eq_map,List.map_cons,List.map_map]
 refine congrArg _ (List.map_congr_left fun k _=>?_)
 show vecN 32 ((l.drop (32*(k+1))).take 32)=vecN 32 (((l.drop 32).drop (32*k)).take 32)
 rw [List.drop_drop,show 32+32*k=32*(k+1) by omega]
theorem chk_take (l:Byt) (n:Nat):chk (l.take (32*n)) n=chk l n:=by
 refine List.map_congr_left fun k hk=>?_
 have hk:=List.mem_range.1 hk
 rw [List.drop_take,List.take_take,show min 32 (32*n - 32*k)=32 by omega]
theorem chk_len (l:Byt) (n:Nat):(chk l n).length=n:=by simp [chk]
theorem repD_full:∀(n:Nat) (l:Byt),32*n≤l.length→repD idC n l= .ok (chk l n,l.drop (32*n))
 |0,l,h=>rfl
 |n+1,l,h=>by
  unfold repD
  rw [idC_dec,if_neg (by omega)]
  dsimp only
  rw [repD_full n (l.drop 32) (by rw [List.length_drop];omega)]
  dsimp only
  rw [chk_cons,List.drop_drop,show 32+32*n=32*(n+1) by omega]
theorem ridsI_any (n:Nat) (hn:n≤1000) (hI:RdI q.l p (badE f) s) (hq:q.l.length≤1000000) (h:(star (rdRs b q p f)).ok w0):Calls Tryz.prog 119 #[ptr b,i64 n] w0 fun r w'=>
  ∃(x:Sl Id) (p':Nat) (f':Flt),Rv (rdR (repD idC n) s) x.l∧x.l.length≤n∧RdI q.l p' (badE f') (lft (rdR (repD idC n) s))∧r= .returned x.v∧Mut (star (rdRs b q p f)) (star (rowR 48 32 Id.c x::rdRs b q p' f')) w0 w':=by
 have hp:=Hp.start1 h
 have u1:=Tryz.underlying49
 have u2:=Tryz.underlying34
 obtain ⟨h0,_,_,h3⟩:=rd_cells h
 have hle:=hI.le
 obtain ⟨m0,hm0⟩:∃m0,m0=(q.l.length - p) / 32:=⟨_,rfl⟩
 have hcs:(badE f=none∧s= .ok (q.l.drop p)∧w0.cell? ⟨b,3,none⟩=some .nilIface)∨(∃(e:Int) (y1:Nat),badE f=some e∧s= .error e∧(1≤e∧e≤4)∧w0.cell? ⟨b,3,none⟩=some (fltI y1)):=by
  clear hp h
  rcases hI.is with ⟨hf,hs⟩|⟨e,hf,hs,he⟩
  ·cases f with
   |some y=>cases hf
   |none=>exact .inl ⟨hf,hs,h3⟩
  ·cases f with
   |none=>cases hf
   |some y=>exact .inr ⟨e,y.1,hf,hs,he,h3⟩
 refine calls_x (args:= [_,_]) tabOk Tryz.func119 Tryz.ntmps119 Tryz.results119 rfl (Nat.le_of_ble_eq_true rfl) ?_
 apply lp_share (fun e w=>∃(sl:Sl UInt8) (m:Nat) (p':Nat) (f':Flt) (e0:Nat→Value),e=eat [(5,i64 32),(6, .slice none 0 0),(7,sl.v)] ⟨e0, []⟩∧sl.l.length=32*m∧m≤n∧SlAt w.heap.size w u8L 1 sl∧RdI q.l p' (badE f') (lft (rdR (repD idC n) s))∧Rv (rdR (repD idC n) s) (chk sl.l m)∧Hp (star (rdRs b q p f)).dom w0 w [star (rdRs b q p' f')])
 ·intro tail
  have hp0:=hp
  have hp:=Hp.start (S:=N0) w0
  have hlf:=fun {w:World} (hc:Chg N0 w0 w)=>left_any (w0:=w) hle hq ((star (rdRs b q p f)).keep0 h hc)
  rcases hcs with ⟨hf,hs,h3⟩|⟨e,y1,hf,hs,he,h3⟩
  ·by_cases hlt:q.l.length - p < 32*n
   ·have hst:lft (rdR (repD idC n) s)= .error 2:=by
     rw [hs]
     show lft (repD idC n (q.l.drop p))=_
     rw [repD_short idC_dec n _ (by rw [List.length_drop];exact hlt)]
     rfl
    have hst2:fld s 2= .error 2:=by rw [hs];rfl
    ((conv=>whnf);repeat' ((first|((with_reducible apply br_id);first|with_reducible refine br_t ?_|with_reducible refine br_f ?_|with_reducible refine br_not ?_|((with_reducible refine br_dec (fun hx=>?_) (fun hx=>?_))<;>(try (exfalso;first|omega|contradiction))))|((with_reducible apply ar_id);(refine ar_q32 (by omega) ?_))|((with_reducible apply cn_id);refine cn (by omega) ?_)|((with_reducible apply ld_id);(refine ld_of (hp.chg.cell0 h3) ?_))|((with_reducible apply gen_id);(refine gen_bin (v:= .bool true) rfl (eqi_guard0 ..) (by rfl) ?_))|((with_reducible apply cl_id);first|((refine cl_eq ((nonr_any b (hp.chg.cell0 h0))) rfl rfl ?_;rintro e w ⟨rfl,hcc⟩;replace hp:=hp.call0 hcc;refine ⟨_,rfl,?_⟩))|((refine cl_eq ((hlf hp.chg)) rfl rfl ?_;rintro e w ⟨rfl,hcc⟩;replace hp:=hp.call0 hcc;refine ⟨_,rfl,?_⟩))))<;>(conv=>whnf)))
    have hp1:=hp0.call0 hp.chg
    clear hp hp0 hlf
    have hp:=hp1
    clear hp1
    refine cl_eq (rfailI_any 2 (.inr (by omega)) hI (hp.get (j:=0) rfl)) rfl rfl ?_
    rintro r w ⟨f2,hI2,rfl,hm⟩
    replace hp:=hp.via (j:=0) rfl hm
    dsimp only [List.set] at hp
    clear hm
    refine ⟨_,rfl,?_⟩
    rw [hst2] at hI2
    have hok:=hp.get (j:=0) rfl
    have hlf:=fun {w':World} (hc:Chg N0 w w')=>left_any (w0:=w') hle hq ((star (rdRs b q p f2)).keep0 hok hc)
    obtain ⟨w1,hw1⟩:∃w1,w1=w:=⟨_,rfl⟩
    have hp0:=hp
    clear hp
    rw [←hw1] at hp0 hok
    have hp:Hp N0 w1 w []:=by rw [hw1];exact Hp.start _
    rw [←hw1] at hlf
    clear hw1
    ((conv=>whnf);repeat' ((first|((with_reducible apply ar_id);first|(refine ar_q32 (by omega) ?_)|refine ar_i64 (by omega) ?_)|((with_reducible apply cn_id);refine cn (by omega) ?_)|((with_reducible apply gen_id);first|(apply gen_min;exact rfl;exact rfl;exact rfl)|(apply gen_max;exact rfl;exact rfl;exact rfl))|((with_reducible apply cl_id);(refine cl_eq ((hlf hp.chg)) rfl rfl ?_;rintro e w ⟨rfl,hcc⟩;replace hp:=hp.call0 hcc;refine ⟨_,rfl,?_⟩)))<;>(conv=>whnf)))
    have hp1:=hp0.call0 hp.chg
    clear hp hp0 hlf
    have hp:=hp1
    clear hp1
    rw [←hm0]
    have hbad:badE f2=some 2:=by
     rcases hI2.is with ⟨_,hh⟩|⟨e,h1,h2,_⟩
     ·cases hh
     ·cases h2
      exact h1
    refine cl_eq (rtakeA_any (32*m0) (by omega) hle hq (hp.get (j:=0) rfl)) rfl (by rw [show (32*max (min (n:Int) (m0:Int)) 0)=((32*m0:Nat):Int) by omega,show decide ((n:Int)≥0)=true from decide_eq_true (by omega)]) ?_
    rintro r w ⟨sl,f3,hsl,hf3,rfl,hat,hm⟩
    replace hp:=hp.via (j:=0) rfl hm
    dsimp only [List.set] at hp
    clear hm
    rw [hbad,rdTake_bad] at hsl hf3 hp
    refine ⟨_,rfl,?_⟩
    ((conv=>whnf))
    exact tail _ _ ⟨sl,0,p,f3,_,eat_holds (by (repeat' (first|exact trivial|(refine ⟨rfl,?_⟩)))),by rw [hsl];rfl,by omega,hat,by rw [hst];exact ⟨hle, .inr ⟨2,hf3,rfl,by omega,by omega⟩⟩,rv_bad hst,hp⟩
   ·have hr:=repD_full n (q.l.drop p) (by rw [List.length_drop];omega)
    have hst:rdR (repD idC n) s= .ok (chk (q.l.drop p) n,(q.l.drop p).drop (32*n)):=by
     rw [hs]
     exact hr
    ((conv=>whnf);repeat' ((first|((with_reducible apply br_id);first|with_reducible refine br_t ?_|with_reducible refine br_f ?_|with_reducible refine br_not ?_|((with_reducible refine br_dec (fun hx=>?_) (fun hx=>?_))<;>(try (exfalso;first|omega|contradiction))))|((with_reducible apply ar_id);first|(refine ar_q32 (by omega) ?_)|refine ar_i64 (by omega) ?_)|((with_reducible apply cn_id);refine cn (by omega) ?_)|((with_reducible apply ld_id);(refine ld_of (hp.chg.cell0 h3) ?_))|((with_reducible apply gen_id);first|(refine gen_bin (v:= .bool true) rfl (eqi_guard0 ..) (by rfl) ?_)|(apply gen_min;exact rfl;exact rfl;exact rfl)|(apply gen_max;exact rfl;exact rfl;exact rfl))|((with_reducible apply cl_id);first|((refine cl_eq ((nonr_any b (hp.chg.cell0 h0))) rfl rfl ?_;rintro e w ⟨rfl,hcc⟩;replace hp:=hp.call0 hcc;refine ⟨_,rfl,?_⟩))|((refine cl_eq ((hlf hp.chg)) rfl rfl ?_;rintro e w ⟨rfl,hcc⟩;replace hp:=hp.call0 hcc;refine ⟨_,rfl,?_⟩))))<;>(conv=>whnf)))
    have hp1:=hp0.call0 hp.chg
    clear hp hp0 hlf
    have hp:=hp1
    clear hp1
    rw [←hm0]
    refine cl_eq (rtakeA_any (32*n) (by omega) hle hq (hp.get (j:=0) rfl)) rfl (by rw [show (32*max (min (n:Int) (m0:Int)) 0)=((32*n:Nat):Int) by omega,show decide ((n:Int)≥0)=true from decide_eq_true (by omega)]) ?_
    rintro r w ⟨sl,f3,hsl,hf3,rfl,hat,hm⟩
    replace hp:=hp.via (j:=0) rfl hm
    dsimp only [List.set] at hp
    clear hm
    have hty:=rdTake_yes (l:=q.l) (p:=p) (n:=32*n) (by omega)
    rw [hf,hty] at hsl hf3 hp
    dsimp only at hsl hf3 hp
    refine ⟨_,rfl,?_⟩
    ((conv=>whnf))
    exact tail _ _ ⟨sl,n,p+32*n,f3,_,eat_holds (by (repeat' (first|exact trivial|(refine ⟨rfl,?_⟩)))),by rw [hsl,List.length_take,List.length_drop];omega,Nat.le_refl _,hat,⟨by omega, .inl ⟨hf3,by rw [hst];show Except.ok _=_;rw [List.drop_drop]⟩⟩,fun a r hh=>by rw [hst] at hh;cases hh;rw [hsl,chk_take],hp⟩
  ·have hst:lft (rdR (repD idC n) s)= .error e:=by rw [hs];rfl
   ((conv=>whnf);repeat' ((first|((with_reducible apply br_id);first|with_reducible refine br_t ?_|with_reducible refine br_f ?_|with_reducible refine br_not ?_)|((with_reducible apply ar_id);first|(refine ar_q32 (by omega) ?_)|refine ar_i64 (by omega) ?_)|((with_reducible apply cn_id);refine cn (by omega) ?_)|((with_reducible apply ld_id);(refine ld_of (hp.chg.cell0 h3) ?_))|((with_reducible apply gen_id);first|(refine gen_bin (v:= .bool false) rfl (eqi_guardr ..) (by rfl) ?_)|(apply gen_min;exact rfl;exact rfl;exact rfl)|(apply gen_max;exact rfl;exact rfl;exact rfl))|((with_reducible apply cl_id);first|((refine cl_eq ((nonr_any b (hp.chg.cell0 h0))) rfl rfl ?_;rintro e w ⟨rfl,hcc⟩;replace hp:=hp.call0 hcc;refine ⟨_,rfl,?_⟩))|((refine cl_eq ((hlf hp.chg)) rfl rfl ?_;rintro e w ⟨rfl,hcc⟩;replace hp:=hp.call0 hcc;refine ⟨_,rfl,?_⟩))))<;>(conv=>whnf)))
   have hp1:=hp0.call0 hp.chg
   clear hp hp0 hlf
   have hp:=hp1
   clear hp1
   rw [←hm0]
   obtain ⟨k,hk⟩:∃k:Nat,(32*max (min (n:Int) (m0:Int)) 0)=(k:Int):=⟨32*min n m0,by omega⟩
   rw [hk]
   refine cl_eq (rtakeA_any k (by omega) hle hq (hp.get (j:=0) rfl)) rfl (by rw [show decide ((n:Int)≥0)=true from decide_eq_true (by omega)]) ?_
   rintro r w ⟨sl,f3,hsl,hf3,rfl,hat,hm⟩
   replace hp:=hp.via (j:=0) rfl hm
   dsimp only [List.set] at hp
   clear hm
   rw [hf,rdTake_bad] at hsl hf3 hp
   refine ⟨_,rfl,?_⟩
   ((conv=>whnf))
   exact tail _ _ ⟨sl,0,p,f3,_,eat_holds (by (repeat' (first|exact trivial|(refine ⟨rfl,?_⟩)))),by rw [hsl];rfl,by omega,hat,by rw [hst];exact ⟨hle, .inr ⟨e,hf3,rfl,he⟩⟩,rv_bad hst,hp⟩
 rintro e w1 ⟨sl,m,p',f',e0,rfl,hsl,hmn,hat,hI2,hrv,hp0⟩
 refine lp_inv (α:=Nat×Sl UInt8×Sl Id) (fun a=> [(5,i64 32),(6,a.2.2.v),(7,a.2.1.v)]) (fun a w=>a.1≤m∧a.2.1.l=sl.l.drop (32*a.1)∧SlAt w1.heap.size w1 u8L 1 a.2.1∧a.2.2.l=chk sl.l a.1∧Hp N0 w1 w [rowR 48 32 Id.c a.2.2]) (fun a=>m - a.1) (0,sl,Sl.nil) (by (repeat' (first|exact trivial|(refine ⟨rfl,?_⟩)))) ⟨Nat.zero_le _,rfl,hat,rfl,(Hp.start (S:=N0) w1).nilRow 48 32 Id.c⟩ ?_
 rintro ⟨i,sb,out⟩ e0 w ⟨hi,hsb,hbt,hout,hp⟩
 dsimp only at hi hsb hbt hout hp ⊢
 have hsl2:sb.l.length=32*(m - i):=by rw [hsb,List.length_drop,hsl];omega
 have hol:out.l.length=i:=by rw [hout,chk_len]
 rcases Nat.lt_or_ge i m with hlt|hge
 ·obtain ⟨bo,oo,x,hA,hbb,hrow,hxx⟩:=hbt.has (i:=0) (by omega)
  obtain ⟨X,hX⟩:∃X,vecN 32 (sb.l.take 32)=X:=⟨_,rfl⟩
  have hcut:(sb.cut 1 32 sb.l.length).l=sl.l.drop (32*(i+1)):=by
   show (sb.l.take sb.l.length).drop 32=_
   rw [List.take_length,hsb,List.drop_drop,show 32*i+32=32*(i+1) by omega]
  have hct:=hbt.cut (lo:=32) (hi:=sb.l.length) (by omega) (Nat.le_refl _)
  have hN:∀b,N0 b→w1.heap.size≤b:=fun _ hh=>hh.elim
  ((conv=>whnf);repeat' ((first|((with_reducible apply br_id);(with_reducible refine br_dec (fun hx=>?_) (fun hx=>?_))<;>(try (exfalso;first|omega|contradiction)))|((with_reducible apply ldn_id);(refine ldn_idat (hrow.keep hp.chg (fun hh=>hh.elim)) (by omega) ?_))|((with_reducible apply gen_id);first|(refine gen_front32 rfl el_u8 sb rfl (hbt.keep hp.chg hN) rfl (h:=32) rfl (by omega) hA ?_)|(refine gen_s2ap rfl Tryz.underlying48 rfl (by omega) ?_)|((refine gen_bs rfl hp el_id Id.c [vecN 32 (sb.l.take 32)] [Id.v (vecN 32 (sb.l.take 32))] rfl rfl rfl (fun _ hh=>by simp at hh;subst hh;rfl) (by omega) ?_);clear hp;intro br w hp)|((refine gen_app (s:=out) rfl hp 1 rfl el_id rfl ⟨some ⟨br,0,none⟩,1, [vecN 32 (sb.l.take 32)]⟩ rfl (hp.row (j:=0) rfl) (fun _ _=>rfl) idL_one (by show (out.l.length+1)*32≤_;omega) (by show out.l.length+1≤_;simp only [maxLen];omega) ?_);clear hp;intro A1 c1 w hp;dsimp only [List.set] at hp)|(refine gen_cutl rfl el_u8 sb rfl (hbt.keep hp.chg hN) rfl (l:=32) rfl (by omega) ?_)|(apply gen_len;exact rfl;exact rfl;assumption)))<;>(conv=>whnf)))
  exact lp_next (i+1,sb.cut 1 32 sb.l.length,⟨A1,c1,out.l++ [vecN 32 (sb.l.take 32)]⟩) (by show m - (i+1) < m - i;omega) (by (repeat' (first|exact trivial|(refine ⟨rfl,?_⟩)))) ⟨by show i+1≤_;omega,hcut,hct,by show out.l++ [vecN 32 (sb.l.take 32)]=_;rw [chk_snoc,hout,hsb],hp.tail⟩
 ·obtain rfl:i=m:=by omega
  ((conv=>whnf);repeat' ((first|((with_reducible apply br_id);(with_reducible refine br_dec (fun hx=>?_) (fun hx=>?_))<;>(try (exfalso;first|omega|contradiction)))|((with_reducible apply gen_id);apply gen_len;exact rfl;exact rfl;assumption))<;>(conv=>whnf)))
  have hq2:=hp0.add (hp.made1 (j:=0) rfl)
  have hq3:=((hq2.perm (.swap ..)).unfold).perm (List.perm_append_singleton _ _)
  rw [←hout] at hrv
  exact ps_val (v':=out.v) rfl ⟨out,p',f',hrv,by omega,hI2,rfl,hq3.shut (.refl _)⟩
end
set_option maxHeartbeats 2000000
theorem dup_of {α:Type} {l:List α} {i:Nat} {x:α} (hx:l[i]? =some x) (hm:x∈l.take i):¬l.Nodup:=fun h=>by
 have h1:l=l.take i++l.drop i:=(List.take_append_drop i l).symm
 rw [h1] at h
 have h2:=(List.nodup_append.1 h).2.2 x hm
 have h3:x∈l.drop i:=by
  refine List.mem_of_getElem? (i:=0) ?_
  rw [List.getElem?_drop]
  exact hx
 exact h2 x h3 rfl
theorem nodup_next {α:Type} {l:List α} {x:α} (h:l.Nodup) (hx:x∉l):(l++ [x]).Nodup:=List.nodup_append.2 ⟨h,by simp,fun a ha b hb=>by simp at hb;subst hb;exact fun e=>hx (e▸ha)⟩
def rightB (b:Blk):Bool:=(decide (b.tx.l.length≤32) && !decide (b.hash=b.parent)) && decide b.tx.l.Nodup
theorem blkright_any {B:Nat} {w0:World} {b:Blk} (h:SlAt B w0 Id.c 32 b.tx):Calls Tryz.prog 109 #[b.v] w0 fun e w'=>e= .returned (.bool (rightB b))∧Chg N0 w0 w':=by
 have hp:=Hp.start (S:=N0) w0
 have hB:∀b,N0 b→B≤b:=fun _ hh=>hh.elim
 have hmax:b.tx.l.length≤9223372036854775807:=by have:=h.le;have:=h.max;simp only [maxLen] at this;omega
 have u1:=Tryz.underlying49
 refine calls_x (args:= [_]) tabOk Tryz.func109 Tryz.ntmps109 Tryz.results109 rfl (Nat.le_of_ble_eq_true rfl) ?_
 ((conv=>whnf);repeat' ((first|((with_reducible apply br_id);first|with_reducible refine br_t ?_|with_reducible refine br_f ?_|((with_reducible refine br_dec (fun hx=>?_) (fun hx=>?_))<;>(try (exfalso;first|omega|contradiction))))|((with_reducible apply ld_id);apply ld_hs hp;(focus repeat' constructor);exact rfl)|((with_reducible apply ldn_id);apply ldn_hs hp;(focus repeat' constructor);exact rfl;exact rfl)|((with_reducible apply al_id);refine al_cel hp ?_;clear hp;intro bb w hp)|((with_reducible apply gen_id);first|((refine gen_mmake rfl Id.v Value.bool hp ?_);clear hp;intro bb w hp)|(refine gen_eqa rfl rfl rfl (eq_id b.hash b.parent) (by kernel_rfl) (.inr rfl) ?_)|(apply gen_len;exact rfl;exact rfl;assumption)))<;>(conv=>whnf)))
 ·rename_i bk _
  obtain ⟨bm,hbm⟩:∃bm,bm=bb:=⟨_,rfl⟩
  subst hbm
  have hf0:(!decide (b.hash=b.parent))=(decide (b.tx.l.length≤32) && !decide (b.hash=b.parent)):=by rw [decide_eq_true (show b.tx.l.length≤32 by omega),Bool.true_and]
  refine lp_inv (α:=Nat×List (Id×Bool)) (fun a=> [(1,ptr bk),(3, .map (some bm)),(4, .bool ((!decide (b.hash=b.parent)))),(20,b.tx.v),(21,errno b.tx.l.length),(22,errno a.1)]) (fun a w=>a.1≤b.tx.l.length∧(0 < a.1→(!decide (b.hash=b.parent))=true)∧(∀x,(mlk a.2 x).getD false=decide (x∈b.tx.l.take a.1))∧(b.tx.l.take a.1).Nodup∧Hp N0 w0 w [mapR Id.v Value.bool bm a.2,cel bk 51 b.c.toArray]) (fun a=>b.tx.l.length - a.1) (0, []) (by (repeat' (first|exact trivial|(refine ⟨rfl,?_⟩)))) ⟨by omega,by omega,by simp,by simp,hp⟩ ?_
  clear hp
  rintro ⟨i,M⟩ e0 w ⟨hi,hfi,hM,hnd,hp⟩
  dsimp only at hi hfi hM hnd hp ⊢
  rcases Nat.lt_or_ge i b.tx.l.length with hlt|hge
  ·obtain ⟨bb,o,x,hA,hb,hrow,hxx⟩:=h.has hlt
   have hmem:x∈b.tx.l:=List.mem_of_getElem? hxx
   have htk:b.tx.l.take (i+1)=b.tx.l.take i++ [x]:=by rw [List.take_add_one,hxx];rfl
   ((conv=>whnf);repeat' ((first|((with_reducible apply br_id);first|with_reducible refine br_t ?_|with_reducible refine br_f ?_|with_reducible refine br_not ?_|((with_reducible refine br_dec (fun hx=>?_) (fun hx=>?_))<;>(try (exfalso;first|omega|contradiction)))|((with_reducible refine br_s (fun hx=>?_) (fun hx=>?_))<;>(try (exfalso;first|omega|contradiction))))|((with_reducible apply ar_id);refine ar_i64 (by omega) ?_)|((with_reducible apply cn_id);refine cn rfl ?_)|((with_reducible apply ldn_id);first|(refine ldn_rowx hp hB ‹_› ‹_› _ rfl ‹_› rfl ?_)|(apply lda_hs hp;(focus repeat' constructor);exact rfl))|((with_reducible apply al_id);refine al_cel hp ?_;clear hp;intro bb w hp)|((with_reducible apply st_id);apply sta_hs hp;(focus repeat' constructor);exact rfl;exact rfl;clear hp;intro w hp;(try dsimp only [List.set] at hp))|((with_reducible apply gen_id);first|(refine gen_ixs rfl rfl ‹_› rfl rfl (by omega) ?_)|(refine gen_look rfl hp 1 rfl rfl idK Tryz.underlying231 (z:=false) rfl _ rfl ?_)|((refine gen_put rfl hp 1 rfl rfl idK Tryz.underlying231 (x) rfl (true) rfl ?_);clear hp;intro w hp)))<;>(conv=>whnf)))
   ·refine ps_val (v':= .bool false) rfl ⟨?_,hp.chg⟩
    have h1:rightB b=false:=by
     unfold rightB
     rw [hM x,decide_eq_true_eq] at hx
     rw [decide_eq_false (dup_of hxx hx),Bool.and_false]
    rw [h1]
   ·refine ps_val (v':= .bool false) rfl ⟨?_,hp.chg⟩
    have h1:rightB b=false:=by
     unfold rightB
     rw [←hf0]
     first|exact Bool.false_and _|(rw [decide_eq_true hx];rfl)
    rw [h1]
   ·refine lp_next (i+1,mput M x true) ?_ (by (repeat' (first|exact trivial|(refine ⟨rfl,?_⟩)))) ⟨by show i+1≤_;omega,fun _=>by simpa using hx,fun y=>?_,?_,hp.sub (List.sublist_cons_self _ _)⟩
    ·show b.tx.l.length - (i+1) < b.tx.l.length - i;omega
    ·show (mlk (mput M x true) y).getD false=decide (y∈b.tx.l.take (i+1))
     rw [mlk,lookup_mput,htk]
     by_cases hy:y=x
     ·simp [hy]
     ·rw [if_neg hy]
      exact (hM y).trans (by simp [hy])
    ·show (b.tx.l.take (i+1)).Nodup
     rw [htk]
     refine nodup_next hnd fun hh=>?_
     have h1:=hM x
     have h2:(mlk M x).getD false=false:=by assumption
     rw [decide_eq_true hh,h2] at h1
     cases h1
  ·((conv=>whnf);repeat' (((with_reducible apply br_id);(with_reducible refine br_dec (fun hx=>?_) (fun hx=>?_))<;>(try (exfalso;first|omega|contradiction)))<;>(conv=>whnf)))
   refine ps_val (v':= .bool (!decide (b.hash=b.parent))) rfl ⟨?_,hp.chg⟩
   rw [List.take_of_length_le hge] at hnd
   have h1:rightB b=(!decide (b.hash=b.parent)):=by
    unfold rightB
    rw [←hf0,decide_eq_true hnd,Bool.and_true]
   rw [h1]
 ·rename_i bk _
  obtain ⟨bm,hbm⟩:∃bm,bm=bb:=⟨_,rfl⟩
  subst hbm
  have hf0:false=(decide (b.tx.l.length≤32) && !decide (b.hash=b.parent)):=by rw [decide_eq_false (show ¬b.tx.l.length≤32 by omega),Bool.false_and]
  refine lp_inv (α:=Nat×List (Id×Bool)) (fun a=> [(1,ptr bk),(3, .map (some bm)),(4, .bool (false)),(20,b.tx.v),(21,errno b.tx.l.length),(22,errno a.1)]) (fun a w=>a.1≤b.tx.l.length∧(0 < a.1→false=true)∧(∀x,(mlk a.2 x).getD false=decide (x∈b.tx.l.take a.1))∧(b.tx.l.take a.1).Nodup∧Hp N0 w0 w [mapR Id.v Value.bool bm a.2,cel bk 51 b.c.toArray]) (fun a=>b.tx.l.length - a.1) (0, []) (by (repeat' (first|exact trivial|(refine ⟨rfl,?_⟩)))) ⟨by omega,by omega,by simp,by simp,hp⟩ ?_
  clear hp
  rintro ⟨i,M⟩ e0 w ⟨hi,hfi,hM,hnd,hp⟩
  dsimp only at hi hfi hM hnd hp ⊢
  rcases Nat.lt_or_ge i b.tx.l.length with hlt|hge
  ·obtain ⟨bb,o,x,hA,hb,hrow,hxx⟩:=h.has hlt
   have hmem:x∈b.tx.l:=List.mem_of_getElem? hxx
   have htk:b.tx.l.take (i+1)=b.tx.l.take i++ [x]:=by rw [List.take_add_one,hxx];rfl
   ((conv=>whnf);repeat' ((first|((with_reducible apply br_id);first|with_reducible refine br_t ?_|with_reducible refine br_f ?_|with_reducible refine br_not ?_|((with_reducible refine br_dec (fun hx=>?_) (fun hx=>?_))<;>(try (exfalso;first|omega|contradiction)))|((with_reducible refine br_s (fun hx=>?_) (fun hx=>?_))<;>(try (exfalso;first|omega|contradiction))))|((with_reducible apply cn_id);refine cn rfl ?_)|((with_reducible apply ldn_id);first|(refine ldn_rowx hp hB ‹_› ‹_› _ rfl ‹_› rfl ?_)|(apply lda_hs hp;(focus repeat' constructor);exact rfl))|((with_reducible apply al_id);refine al_cel hp ?_;clear hp;intro bb w hp)|((with_reducible apply st_id);apply sta_hs hp;(focus repeat' constructor);exact rfl;exact rfl;clear hp;intro w hp;(try dsimp only [List.set] at hp))|((with_reducible apply gen_id);first|(refine gen_ixs rfl rfl ‹_› rfl rfl (by omega) ?_)|(refine gen_look rfl hp 1 rfl rfl idK Tryz.underlying231 (z:=false) rfl _ rfl ?_)))<;>(conv=>whnf)))
   ·refine ps_val (v':= .bool false) rfl ⟨?_,hp.chg⟩
    have h1:rightB b=false:=by
     unfold rightB
     rw [hM x,decide_eq_true_eq] at hx
     rw [decide_eq_false (dup_of hxx hx),Bool.and_false]
    rw [h1]
   ·refine ps_val (v':= .bool false) rfl ⟨?_,hp.chg⟩
    have h1:rightB b=false:=by
     unfold rightB
     rw [←hf0]
     first|exact Bool.false_and _|(rw [decide_eq_true hx];rfl)
    rw [h1]
  ·((conv=>whnf);repeat' (((with_reducible apply br_id);(with_reducible refine br_dec (fun hx=>?_) (fun hx=>?_))<;>(try (exfalso;first|omega|contradiction)))<;>(conv=>whnf)))
   refine ps_val (v':= .bool (false)) rfl ⟨?_,hp.chg⟩
   rw [List.take_of_length_le hge] at hnd
   have h1:rightB b=(false):=by
    unfold rightB
    rw [←hf0,decide_eq_true hnd,Bool.and_true]
   rw [h1]
set_option maxHeartbeats 500000
def rdEnd (s:Rst):Int:=match s with
 | .error e=>e
 | .ok l=>if l= [] then 0 else 3
theorem RdI.fin {l:Byt} {p:Nat} {f:Option Int} {s:Rst} (h:RdI l p f s):f.getD (if p=l.length then 0 else 3)=rdEnd s∧(rdEnd s=0∨1≤rdEnd s∧rdEnd s≤4):=by
 have hle:=h.le
 rcases h.is with ⟨rfl,rfl⟩|⟨e,rfl,rfl,h1⟩
 ·have hx:(l.drop p= [])=(p=l.length):=propext ⟨fun hh=>by have:=congrArg List.length hh;rw [List.length_drop,List.length_nil] at this;omega,fun hh=>List.drop_of_length_le (by omega)⟩
  have h1:rdEnd (.ok (l.drop p))=if p=l.length then 0 else 3:=by
   unfold rdEnd
   dsimp only
   simp only [hx]
  rw [h1]
  refine ⟨rfl,?_⟩
  split<;>omega
 ·exact ⟨rfl, .inr h1⟩
theorem ful_end {α:Type} {C:Cdc α} {p:α→Bool} {l:Byt} {x:α} (hv:Rv (C.dec l) x):(fulC C p).dec l=if rdEnd (lft (C.dec l))=0 then (if p x=true then .ok x else .error 4) else .error (rdEnd (lft (C.dec l))):=by
 have h0:(fulC C p).dec l=match wholeD C l with
  | .error e=>.error e
  | .ok a=>if p a=true then .ok a else .error 4:=rfl
 rw [h0]
 unfold wholeD
 cases hd:C.dec l with
 |error e=>exact (if_neg (C.err _ _ hd)).symm
 |ok u=>
  obtain ⟨u1,u2⟩:=u
  obtain rfl:=hv _ _ hd
  unfold lft rdEnd
  dsimp only
  by_cases hr:u2= []
  ·simp only [if_pos hr,if_true]
  ·simp only [if_neg hr]
   rfl
section
variable {w0 : World} {b p : Nat} {q : Sl UInt8} {f : Flt} {s : Rst}
theorem rdoneI_any (hI:RdI q.l p (badE f) s) (hq:q.l.length≤1000000) (h:(star (rdRs b q p f)).ok w0):Calls Tryz.prog 22 #[ptr b] w0 fun r w'=>r= .returned (i64 (rdEnd s))∧Chg N0 w0 w':=by
 rw [←hI.fin.1]
 exact rdone_any hI.bad hI.le hq h
end
def blkZ:Blk:=⟨Id.z,Id.z,Sl.nil⟩
theorem bdec_any {B:Nat} {w0:World} {s:Sl UInt8} (h:SlAt B w0 u8L 1 s) (hn:s.l.length≤1000000):Calls Tryz.prog 70 #[s.v] w0 fun e w'=>∃(x:Blk) (c:Int),e= .returned (.tuple #[x.v,i64 c])∧x.tx.l.length≤32∧Made (btxR x) w0 w'∧(c=0∨1≤c∧c≤4)∧blkF.dec s.l=(if c=0 then .ok x.p else .error c):=by
 have hp:=Hp.start (S:=N0) w0
 have hB:∀b,N0 b→B≤b:=fun _ hh=>hh.elim
 refine calls_x (args:= [_]) tabOk Tryz.func70 Tryz.ntmps70 Tryz.results70 rfl (Nat.le_of_ble_eq_true rfl) ?_
 ((conv=>whnf);repeat' (((with_reducible apply al_id);refine al_cel hp ?_;clear hp;intro bb w hp)<;>(conv=>whnf)))
 obtain ⟨b2,hb2⟩:∃b,b=bb:=⟨_,rfl⟩
 subst hb2
 refine cl_of (rnew_any (h.keep hp.chg hB) hn) ?_
 rintro e w ⟨b,q,hq,rfl,hm⟩
 replace hp:=hp.add hm
 clear hm
 refine ⟨_,rfl,?_⟩
 have hql:q.l.length≤1000000:=by rw [hq];exact hn
 rw [←hq]
 clear hq hn h
 have hI:RdI q.l 0 (badE none) (.ok q.l):=⟨by omega, .inl ⟨rfl,rfl⟩⟩
 ((conv=>whnf))
 refine cl_eq (ridI_any hI hql (hp.get (j:=0) rfl)) rfl rfl ?_
 rintro r w ⟨i1,p1,f1,hv1,hI1,rfl,hm⟩
 replace hp:=hp.via (j:=0) rfl hm
 dsimp only [List.set] at hp
 clear hm
 refine ⟨_,rfl,?_⟩
 ((conv=>whnf))
 refine cl_eq (ridI_any hI1 hql (hp.get (j:=0) rfl)) rfl rfl ?_
 rintro r w ⟨i2,p2,f2,hv2,hI2,rfl,hm⟩
 replace hp:=hp.via (j:=0) rfl hm
 dsimp only [List.set] at hp
 clear hm
 refine ⟨_,rfl,?_⟩
 ((conv=>whnf);repeat' ((first|((with_reducible apply cn_id);refine cn rfl ?_)|((with_reducible apply al_id);refine al_cel hp ?_;clear hp;intro bb w hp)|((with_reducible apply st_id);apply sta_hs hp;(focus repeat' constructor);exact rfl;exact rfl;clear hp;intro w hp;(try dsimp only [List.set] at hp))|((with_reducible apply gen_id);(refine gen_build (t:=51) (out:=(Blk.c ⟨i1,i2,Sl.nil⟩)) rfl (by kernel_rfl) ?_)))<;>(conv=>whnf)))
 refine cl_eq (rcountI_any hI2 hql (hp.get (j:=1) rfl)) rfl rfl ?_
 rintro r w ⟨n,p3,f3,hv3,hn3,hI3,rfl,hm⟩
 replace hp:=hp.via (j:=1) rfl hm
 dsimp only [List.set] at hp
 clear hm
 refine ⟨_,rfl,?_⟩
 ((conv=>whnf))
 refine cl_eq (ridsI_any n (by omega) hI3 hql (hp.get (j:=1) rfl)) rfl rfl ?_
 rintro r w ⟨x,p4,f4,hv4,hx4,hI4,rfl,hm⟩
 replace hp:=hp.via (j:=1) rfl hm
 dsimp only [List.set] at hp
 clear hm
 refine ⟨_,rfl,?_⟩
 have hE:=hI4.fin.2
 have hf:=ful_end (C:=blkC) (p:=rightBP) (l:=q.l) (x:=⟨i1,i2,x.l⟩) (rv_map (rv_seq hv1 (rv_seq hv2 (rv_lst hv3 hv4))))
 have hl:lft (rdR blkC.dec (.ok q.l))=_:=lft_map.trans (lft_seq.trans (lft_seq.trans (lft_lst hv3)))
 have hl:lft (blkC.dec q.l)=_:=hl
 rw [hl] at hf
 clear hl
 obtain ⟨S4,hS4⟩:∃S,lft (rdR (repD idC n) (lft (rdR cntC.dec (lft (rdR idC.dec (lft (rdR idC.dec (Except.ok q.l))))))))=S:=⟨_,rfl⟩
 rw [hS4] at hf hE hI4
 have hdone:=fun {w:World} (hc:(star (rdRs b q p4 f4)).ok w)=>rdoneI_any hI4 hql hc
 obtain ⟨E,hE4⟩:∃E,rdEnd S4=E:=⟨_,rfl⟩
 rw [hE4] at hf hE hdone
 clear hv1 hv2 hv3 hv4 hI hI1 hI2 hI3 hS4 hE4 hI4
 ((conv=>whnf);repeat' ((first|((with_reducible apply cn_id);refine cn rfl ?_)|((with_reducible apply st_id);apply st_hs hp;(focus repeat' constructor);exact rfl;exact rfl;clear hp;intro w hp;(try dsimp only [List.set] at hp)))<;>(conv=>whnf)))
 replace hp:=(hp.perm (.swap ..)).split1
 replace hp:Hp N0 w0 w [btxR ⟨i1,i2,x⟩,star (rdRs b q p4 f4),cel bb 51 (Blk.c ⟨i1,i2,x⟩).toArray,cel b2 51 _]:=hp
 obtain ⟨b5,hb5⟩:∃b,b=bb:=⟨_,rfl⟩
 subst hb5
 obtain ⟨X,hX⟩:∃X:Blk,X=⟨i1,i2,x⟩:=⟨_,rfl⟩
 have hXx:x=X.tx:=by rw [hX]
 have hXp:X.p=⟨i1,i2,x.l⟩:=by rw [hX];rfl
 rw [←hX] at hp
 have hx32:X.tx.l.length≤32:=by rw [←hXx];omega
 rw [←hXp] at hf
 clear hX hXx hXp hx4
 have hrt:=fun {w:World} (hc:SlAt w.heap.size w Id.c 32 X.tx)=>blkright_any (b:=X) hc
 ((conv=>whnf);repeat' ((first|((with_reducible apply br_id);first|with_reducible refine br_t ?_|with_reducible refine br_f ?_|with_reducible refine br_not ?_|((with_reducible refine br_eq (fun hx=>?_) (fun hx=>?_))<;>(try (exfalso;first|omega|contradiction)))|((with_reducible refine br_ne (fun hx=>?_) (fun hx=>?_))<;>(try (exfalso;first|omega|contradiction)))|((with_reducible refine br_s (fun hx=>?_) (fun hx=>?_))<;>(try (exfalso;first|omega|contradiction))))|((with_reducible apply cn_id);refine cn rfl ?_)|((with_reducible apply ldn_id);apply lda_hs hp;(focus repeat' constructor);exact rfl)|((with_reducible apply st_id);apply sta_hs hp;(focus repeat' constructor);exact rfl;exact rfl;clear hp;intro w hp;(try dsimp only [List.set] at hp))|((with_reducible apply gen_id);apply gen_build;exact rfl;exact rfl)|((with_reducible apply cl_id);first|((refine cl_eq ((hdone (hp.get (j:=1) rfl))) rfl rfl ?_;rintro e w ⟨rfl,hcc⟩;replace hp:=hp.call0 hcc;refine ⟨_,rfl,?_⟩))|((refine cl_eq ((hrt (hp.row (j:=0) rfl))) rfl rfl ?_;rintro e w ⟨rfl,hcc⟩;replace hp:=hp.call0 hcc;refine ⟨_,rfl,?_⟩))))<;>(conv=>whnf)))
 ·exact ps_val (v':= .tuple #[X.v,i64 0]) rfl ⟨X,0,rfl,hx32,hp.made1 (j:=0) rfl, .inl rfl,by rw [show blkF.dec q.l=_ from hf,if_pos ‹_›,if_pos (show rightBP X.p=true by assumption),if_pos rfl]⟩
 ·exact ps_val (v':= .tuple #[blkZ.v,i64 4]) rfl ⟨blkZ,4,rfl,Nat.zero_le _,(hp.nilRow 48 32 Id.c).made1 (j:=0) rfl, .inr (by omega),by rw [show blkF.dec q.l=_ from hf,if_pos ‹_›,if_neg (show ¬rightBP X.p=true by rw [show rightBP X.p=false by assumption];decide),if_neg (by decide)]⟩
 ·exact ps_val (v':= .tuple #[blkZ.v,i64 E]) rfl ⟨blkZ,E,rfl,Nat.zero_le _,(hp.nilRow 48 32 Id.c).made1 (j:=0) rfl,hE,by rw [show blkF.dec q.l=_ from hf,if_neg ‹_›,if_neg ‹_›]⟩
end Go.Proofs.YtpbapnlnheahnaaGreatDoor
