/- MImprintBytes18: parts of the proof of ImprintBytes: RdH, Plc, HintIP, HintHI, Seen0. No condition of their own. -/
import Derived.Test.YtpbapnlnheahnaaGreatDoorMImprintBytes17
import Derived.Test.YtpbapnlnheahnaaGreatDoorMImprintBytes7
import Derived.Test.YtpbapnlnheahnaaGreatDoorMImprintBytes14
import Derived.Test.YtpbapnlnheahnaaGreatDoorMImprintBytes16
set_option linter.unusedSimpArgs false
set_option linter.unusedVariables false
namespace Go.Proofs.YtpbapnlnheahnaaGreatDoor
open Go.RowKit
set_option maxRecDepth 100000
set_option maxHeartbeats 2000000
theorem gen_cpz {P:Program} {w:World} {ρ:Operand→Value} {o:Oper} {g:Value→World→Prop} {t t2 e:TypeId} {x y:Operand} (hop:o.op= .call {callee:= .builtin .copy,args:= #[x,y],argTypes:= #[t,t2]}) (ht:P.underlying t=some (.slice e)) (hsz:(P.info? e).map (·.size)=some 1) {d a:Option Addr} {dLen dCap sCap:Nat} (hx:ρ x= .slice d dLen dCap) (hy:ρ y= .slice a 0 sCap)
  (hk:g (.int .i64 0) w):Gen P ρ o w g:=by
 have hrun:=run_copy_none (P:=P) w t t2 o.type e d a dLen dCap 0 sCap ht hsz (Nat.zero_min _)
 exact gen_v (by simp [execOp,hop,resolve,invoke,builtin,hx,hy,hrun,goInt]) hk
theorem idc_maps (x:Id):x.toList.map u8=x.c:=by
 have:=congrArg Array.toList (Id.cells x)
 rw [List.toList_toArray,List.toList_toArray] at this
 exact this
theorem rhintI_any {w0:World} {b p:Nat} {q:Sl UInt8} {f:Flt} {s:Rst} (hI:RdI q.l p (badE f) s) (hq:q.l.length≤1000000) (h:(star (rdRs b q p f)).ok w0):Calls Tryz.prog 76 #[ptr b] w0 fun r w'=>
  ∃(x:Hint) (p':Nat) (f':Flt),Rv (rdR hintC.dec s) x∧RdI q.l p' (badE f') (lft (rdR hintC.dec s))∧r= .returned (Hint.v x)∧Mut (star (rdRs b q p f)) (star (rdRs b q p' f')) w0 w':=by
 have hp:=Hp.start1 h
 have u2:=Tryz.underlying34
 obtain ⟨hS',hrv,hln⟩:=hI.take 16
 obtain ⟨tk,htk⟩:∃tk,(rdTake q.l p (badE f) 16).1=tk:=⟨_,rfl⟩
 rw [htk] at hrv hln
 have hle:=hI.le
 refine calls_x (args:= [_]) tabOk Tryz.func76 Tryz.ntmps76 Tryz.results76 rfl (Nat.le_of_ble_eq_true rfl) ?_
 ((conv=>whnf);repeat' (((with_reducible apply al_id);refine al_cel hp ?_;clear hp;intro bb w hp)<;>(conv=>whnf)))
 obtain ⟨b3,hb3⟩:∃b:Nat,b=bb:=⟨_,rfl⟩
 subst hb3
 obtain ⟨b2,hb2⟩:∃b:Nat,b=bb:=⟨_,rfl⟩
 subst hb2
 have hcells:tk.length=16→(List.take 0 ((rep 16 i_u8).cells.toList)++(tk.take 16).flatMap u8L++List.drop (0+16) ((rep 16 i_u8).cells.toList)).toArray=(Hint.c (vecN 16 tk)).toArray:=fun hc=>by
  have e1:(rep 16 i_u8).cells.toList=List.replicate 16 (u8 0):=rfl
  rw [←Hint.maps,vecN_list hc,List.take_of_length_le (by omega:tk.length≤16),←List.map_eq_flatMap,e1,List.take_zero,List.nil_append,List.drop_of_length_le (by simp),List.append_nil]
 refine dr_cut (fun e w=>∃(p':Nat) (f':Flt) (e0:Nat→Value),e=eat [(2,ptr b2),(3,ptr b3)] ⟨e0, []⟩∧RdI q.l p' (badE f') (lft (rdR (fixC 16).dec s))∧Hp (star (rdRs b q p f)).dom w0 w [cel b3 44 (Hint.c (vecN 16 tk)).toArray,cel b2 44 (rep 16 i_u8).cells,star (rdRs b q p' f')]) ?_ ?_
 ·rcases hln with hc|hc
  ·have hne:tk≠ []:=fun e=>by rw [e] at hc;cases hc
   have hmin:16=min tk.length 16:=by omega
   ((conv=>whnf);repeat' ((first|((with_reducible apply cn_id);refine cn (Chg.refl _ _) ?_)|((with_reducible apply gen_id);first|(refine gen_arr rfl Tryz.underlying44 rfl rfl (List.replicate 16 (0:UInt8)) rfl ?_)|((refine gen_copy rfl hp 0 rfl el_u8 rfl ⟨sA,sc,sl⟩ rfl hsl hne (fun _ _=>rfl) u8_one hmin (by decide) ?_);clear hp;intro w hp;dsimp only [List.set] at hp))|((with_reducible apply dr_id);(refine dr_autos [0] 2 tabOk (by kernel_rfl) (by decide+kernel) ?_);replace hp:=hp.drew)|((with_reducible apply fk_id);refine fk_mk ?_ ?_)|((with_reducible apply cl_id);(refine cl_eq (rtake_any (b:=b) (p:=p) (q:=q) (f:=f) 16 (by omega) (fun _=>by omega) hle hq (hp.get (j:=2) rfl)) rfl rfl ?_;rintro e w ⟨⟨sA,sc,sl⟩,f',hs,hf',rfl,hsl,hmt⟩;replace hp:=hp.via (j:=2) rfl hmt;clear hmt;dsimp only [List.set] at hp;refine ⟨_,rfl,?_⟩;rw [htk] at hs;rw [←hf'] at hS';dsimp only at hs;subst hs)))<;>(conv=>whnf)))
   all_goals
    have hce:=hcells hc
    rw [hce] at hp
    exact ⟨_,f',_,eat_holds (by (repeat' (first|exact trivial|(refine ⟨rfl,?_⟩)))),hS',hp⟩
  ·subst hc
   ((conv=>whnf);repeat' ((first|((with_reducible apply cn_id);refine cn (Chg.refl _ _) ?_)|((with_reducible apply gen_id);first|(refine gen_arr rfl Tryz.underlying44 rfl rfl (List.replicate 16 (0:UInt8)) rfl ?_)|(refine gen_cpz rfl u2 rfl rfl rfl ?_))|((with_reducible apply dr_id);(refine dr_autos [0] 2 tabOk (by kernel_rfl) (by decide+kernel) ?_);replace hp:=hp.drew)|((with_reducible apply fk_id);refine fk_mk ?_ ?_)|((with_reducible apply cl_id);(refine cl_eq (rtake_any (b:=b) (p:=p) (q:=q) (f:=f) 16 (by omega) (fun _=>by omega) hle hq (hp.get (j:=2) rfl)) rfl rfl ?_;rintro e w ⟨⟨sA,sc,sl⟩,f',hs,hf',rfl,hsl,hmt⟩;replace hp:=hp.via (j:=2) rfl hmt;clear hmt;dsimp only [List.set] at hp;refine ⟨_,rfl,?_⟩;rw [htk] at hs;rw [←hf'] at hS';dsimp only at hs;subst hs)))<;>(conv=>whnf)))
   all_goals exact ⟨_,f',_,eat_holds (by (repeat' (first|exact trivial|(refine ⟨rfl,?_⟩)))),hS',hp⟩
 ·clear hp
  rintro e w ⟨p',f',e0,rfl,hS2,hp⟩
  have hv:Rv (rdR hintC.dec s) (vecN 16 tk):=rv_map hrv
  have hS3:RdI q.l p' (badE f') (lft (rdR hintC.dec s)):=by
   rw [show lft (rdR hintC.dec s)=lft (rdR (fixC 16).dec s) from lft_map]
   exact hS2
  obtain ⟨X,hX⟩:∃X,vecN 16 tk=X:=⟨_,rfl⟩
  rw [hX] at hp hv
  ((conv=>whnf);repeat' ((first|((with_reducible apply cn_id);refine cn rfl ?_)|((with_reducible apply ldn_id);apply lda_hs hp;(focus repeat' constructor);exact rfl)|((with_reducible apply st_id);apply sta_hs hp;(focus repeat' constructor);exact rfl;exact rfl;clear hp;intro w hp;(try dsimp only [List.set] at hp)))<;>(conv=>whnf)))
  exact ps_val (v':=Hint.v X) rfl ⟨X,p',f',hv,hS3,rfl,hp.shut1 (j:=2) rfl⟩
theorem ridI_any {w0:World} {b p:Nat} {q:Sl UInt8} {f:Flt} {s:Rst} (hI:RdI q.l p (badE f) s) (hq:q.l.length≤1000000) (h:(star (rdRs b q p f)).ok w0):Calls Tryz.prog 79 #[ptr b] w0 fun r w'=>
  ∃(x:Id) (p':Nat) (f':Flt),Rv (rdR idC.dec s) x∧RdI q.l p' (badE f') (lft (rdR idC.dec s))∧r= .returned (Id.v x)∧Mut (star (rdRs b q p f)) (star (rdRs b q p' f')) w0 w':=by
 have hp:=Hp.start1 h
 have u2:=Tryz.underlying34
 obtain ⟨hS',hrv,hln⟩:=hI.take 32
 obtain ⟨tk,htk⟩:∃tk,(rdTake q.l p (badE f) 32).1=tk:=⟨_,rfl⟩
 rw [htk] at hrv hln
 have hle:=hI.le
 refine calls_x (args:= [_]) tabOk Tryz.func79 Tryz.ntmps79 Tryz.results79 rfl (Nat.le_of_ble_eq_true rfl) ?_
 ((conv=>whnf);repeat' (((with_reducible apply al_id);refine al_cel hp ?_;clear hp;intro bb w hp)<;>(conv=>whnf)))
 obtain ⟨b3,hb3⟩:∃b:Nat,b=bb:=⟨_,rfl⟩
 subst hb3
 obtain ⟨b2,hb2⟩:∃b:Nat,b=bb:=⟨_,rfl⟩
 subst hb2
 have hcells:tk.length=32→(List.take 0 ((rep 32 i_u8).cells.toList)++(tk.take 32).flatMap u8L++List.drop (0+32) ((rep 32 i_u8).cells.toList)).toArray=(Id.c (vecN 32 tk)).toArray:=fun hc=>by
  have e1:(rep 32 i_u8).cells.toList=List.replicate 32 (u8 0):=rfl
  rw [←idc_maps,vecN_list hc,List.take_of_length_le (by omega:tk.length≤32),←List.map_eq_flatMap,e1,List.take_zero,List.nil_append,List.drop_of_length_le (by simp),List.append_nil]
 refine dr_cut (fun e w=>∃(p':Nat) (f':Flt) (e0:Nat→Value),e=eat [(2,ptr b2),(3,ptr b3)] ⟨e0, []⟩∧RdI q.l p' (badE f') (lft (rdR (fixC 32).dec s))∧Hp (star (rdRs b q p f)).dom w0 w [cel b3 48 (Id.c (vecN 32 tk)).toArray,cel b2 48 (rep 32 i_u8).cells,star (rdRs b q p' f')]) ?_ ?_
 ·rcases hln with hc|hc
  ·have hne:tk≠ []:=fun e=>by rw [e] at hc;cases hc
   have hmin:32=min tk.length 32:=by omega
   ((conv=>whnf);repeat' ((first|((with_reducible apply cn_id);refine cn (Chg.refl _ _) ?_)|((with_reducible apply gen_id);first|(refine gen_arr rfl Tryz.underlying48 rfl rfl (List.replicate 32 (0:UInt8)) rfl ?_)|((refine gen_copy rfl hp 0 rfl el_u8 rfl ⟨sA,sc,sl⟩ rfl hsl hne (fun _ _=>rfl) u8_one hmin (by decide) ?_);clear hp;intro w hp;dsimp only [List.set] at hp))|((with_reducible apply dr_id);(refine dr_autos [0] 2 tabOk (by kernel_rfl) (by decide+kernel) ?_);replace hp:=hp.drew)|((with_reducible apply fk_id);refine fk_mk ?_ ?_)|((with_reducible apply cl_id);(refine cl_eq (rtake_any (b:=b) (p:=p) (q:=q) (f:=f) 32 (by omega) (fun _=>by omega) hle hq (hp.get (j:=2) rfl)) rfl rfl ?_;rintro e w ⟨⟨sA,sc,sl⟩,f',hs,hf',rfl,hsl,hmt⟩;replace hp:=hp.via (j:=2) rfl hmt;clear hmt;dsimp only [List.set] at hp;refine ⟨_,rfl,?_⟩;rw [htk] at hs;rw [←hf'] at hS';dsimp only at hs;subst hs)))<;>(conv=>whnf)))
   all_goals
    have hce:=hcells hc
    rw [hce] at hp
    exact ⟨_,f',_,eat_holds (by (repeat' (first|exact trivial|(refine ⟨rfl,?_⟩)))),hS',hp⟩
  ·subst hc
   ((conv=>whnf);repeat' ((first|((with_reducible apply cn_id);refine cn (Chg.refl _ _) ?_)|((with_reducible apply gen_id);first|(refine gen_arr rfl Tryz.underlying48 rfl rfl (List.replicate 32 (0:UInt8)) rfl ?_)|(refine gen_cpz rfl u2 rfl rfl rfl ?_))|((with_reducible apply dr_id);(refine dr_autos [0] 2 tabOk (by kernel_rfl) (by decide+kernel) ?_);replace hp:=hp.drew)|((with_reducible apply fk_id);refine fk_mk ?_ ?_)|((with_reducible apply cl_id);(refine cl_eq (rtake_any (b:=b) (p:=p) (q:=q) (f:=f) 32 (by omega) (fun _=>by omega) hle hq (hp.get (j:=2) rfl)) rfl rfl ?_;rintro e w ⟨⟨sA,sc,sl⟩,f',hs,hf',rfl,hsl,hmt⟩;replace hp:=hp.via (j:=2) rfl hmt;clear hmt;dsimp only [List.set] at hp;refine ⟨_,rfl,?_⟩;rw [htk] at hs;rw [←hf'] at hS';dsimp only at hs;subst hs)))<;>(conv=>whnf)))
   all_goals exact ⟨_,f',_,eat_holds (by (repeat' (first|exact trivial|(refine ⟨rfl,?_⟩)))),hS',hp⟩
 ·clear hp
  rintro e w ⟨p',f',e0,rfl,hS2,hp⟩
  have hv:Rv (rdR idC.dec s) (vecN 32 tk):=rv_map hrv
  have hS3:RdI q.l p' (badE f') (lft (rdR idC.dec s)):=by
   rw [show lft (rdR idC.dec s)=lft (rdR (fixC 32).dec s) from lft_map]
   exact hS2
  obtain ⟨X,hX⟩:∃X,vecN 32 tk=X:=⟨_,rfl⟩
  rw [hX] at hp hv
  ((conv=>whnf);repeat' ((first|((with_reducible apply cn_id);refine cn rfl ?_)|((with_reducible apply ldn_id);apply lda_hs hp;(focus repeat' constructor);exact rfl)|((with_reducible apply st_id);apply sta_hs hp;(focus repeat' constructor);exact rfl;exact rfl;clear hp;intro w hp;(try dsimp only [List.set] at hp)))<;>(conv=>whnf)))
  exact ps_val (v':=Id.v X) rfl ⟨X,p',f',hv,hS3,rfl,hp.shut1 (j:=2) rfl⟩
structure Plc where
 h:UInt32
 at':Int
 deriving DecidableEq
abbrev Plc.c (k:Plc):List Value:= [u32 k.h,i64 k.at']
abbrev Plc.v (k:Plc):Value:= .agg #[u32 k.h,i64 k.at']
theorem el_plc:ElT Tryz.prog 262 202 2 16:=elt_of (z:= .agg #[.int .u32 0, .int .i64 0]) Tryz.underlying262 (by kernel_rfl) rfl (by omega)
theorem plc_one {l:List Plc}:∀x∈l,∀u∈Plc.c x,u.oneCell'=true:=fun x _ u hu=>by
 rcases List.mem_cons.1 hu with rfl|hu
 ·rfl
 rcases List.mem_cons.1 hu with rfl|hu
 ·rfl
 ·cases hu
theorem eq_plc (x y:Plc):EqIs Tryz.prog 202 x.v y.v (decide (x=y)):=eqis_of (fs:=Tryz.prog.fieldsOf 202) (by kernel_rfl) (by kernel_rfl) fun w=>by
 have h0:=eqf_cons (P:=Tryz.prog) (w:=w) (d:=9999) (xs:= #[u32 x.h,i64 x.at']) (ys:= #[u32 y.h,i64 y.at']) (f:=((Tryz.prog.fieldsOf 202)[0]?).getD default) (by decide+kernel) (part_word (n:=1) (by kernel_rfl) (v:=u32 x.h) (by kernel_rfl)) (part_word (n:=1) (by kernel_rfl) (v:=u32 y.h) (by kernel_rfl))
  (run_equalIn_int w 9998 _ .u32 .u32 _ _ (by kernel_rfl)) (eqf_cons (f:=((Tryz.prog.fieldsOf 202)[1]?).getD default) (by decide+kernel) (part_word (n:=1) (by kernel_rfl) (v:=i64 x.at') (by kernel_rfl)) (part_word (n:=1) (by kernel_rfl) (v:=i64 y.at') (by kernel_rfl)) (run_equalIn_int w 9998 _ .i64 .i64 _ _ (by kernel_rfl)) eqf_nil)
 rw [u32_eq] at h0
 have e:(decide (x.h=y.h) && ((x.at'==y.at') && true))=decide (x=y):=by
  rw [Bool.eq_iff_iff]
  cases x;cases y
  simp
 rw [e] at h0
 exact h0
abbrev iRsIP (b m:Nat) (l:List (Id×Sl Plc)) (n:Int):List Res:=idxRs 252 202 2 Id.v Plc.c b m l n
theorem inoneIP {w0:World} {b m:Nat} (hc:w0.cell? ⟨b,0,none⟩=some (.map (some m))):Calls Tryz.prog 154 #[ptr b] w0 fun e w'=>e= .returned (.bool false)∧Chg N0 w0 w':=by
 have hp:=Hp.start (S:=N0) w0
 refine calls_x (args:= [_]) tabOk Tryz.func154 Tryz.ntmps154 Tryz.results154 rfl (Nat.le_of_ble_eq_true rfl) ?_
 ((conv=>whnf);repeat' ((first|((with_reducible apply br_id);with_reducible refine br_f ?_)|((with_reducible apply ld_id);(refine ld_of (hp.chg.cell0 hc) ?_)))<;>(conv=>whnf)))
 exact ps_val (v':= .bool false) rfl ⟨rfl,hp.chg⟩
theorem inewIP {w0:World}:Calls Tryz.prog 130 #[] w0 fun e w'=>∃b m,e= .returned (ptr b)∧Made (star (iRsIP b m [] 0)) w0 w':=by
 have hp:=Hp.start (S:=N0) w0
 refine calls_x (args:= []) tabOk Tryz.func130 Tryz.ntmps130 Tryz.results130 rfl (Nat.le_of_ble_eq_true rfl) ?_
 ((conv=>whnf);repeat' ((first|((with_reducible apply al_id);refine al_cel hp ?_;clear hp;intro bb w hp)|((with_reducible apply gen_id);first|((refine gen_mmake rfl Id.v (Sl.v (α:=Plc)) hp ?_);clear hp;intro bb w hp)|(apply gen_build;exact rfl;exact rfl)))<;>(conv=>whnf)))
 exact ps_of ⟨_,_,rfl,hp.made (.refl _)⟩
theorem iatIP {w0:World} {b m:Nat} {l:List (Id×Sl Plc)} {n:Int} (h:IdxAt Id.v Plc.c 2 w0 b m l n) (k:Id) (hn:(idx l k).l.length≤1000000):Calls Tryz.prog 180 #[ptr b,Id.v k] w0 fun e w'=>∃r:Sl Plc,r.l=(idx l k).l∧e= .returned r.v∧Made (rowR 202 2 Plc.c r) w0 w':=by
 have hp:=Hp.start (S:=N0) w0
 have hB:∀b,N0 b→w0.heap.size≤b:=fun _ hh=>hh.elim
 have hsa:=h.idx k
 obtain ⟨s,hs⟩:∃s,idx l k=s:=⟨_,rfl⟩
 rw [hs] at hn hsa ⊢
 refine calls_x (args:= [_,_]) tabOk Tryz.func180 Tryz.ntmps180 Tryz.results180 rfl (Nat.le_of_ble_eq_true rfl) ?_
 ((conv=>whnf);repeat' ((first|((with_reducible apply br_id);with_reducible refine br_f ?_)|((with_reducible apply ld_id);(refine ld_of (hp.chg.cell0 h.c0) ?_))|((with_reducible apply ldn_id);apply lda_hs hp;(focus repeat' constructor);exact rfl)|((with_reducible apply al_id);refine al_cel hp ?_;clear hp;intro bb w hp)|((with_reducible apply gen_id);(refine gen_app0 rfl hp el_plc rfl s rfl (hsa.keep hp.chg hB) (fun _ _=>rfl) plc_one (by omega) (by simp only [maxLen];omega) ?_);clear hp;intro A1 c1 w hcc hp)|((with_reducible apply dr_id);refine dr_auto tabOk (by kernel_rfl) (by decide+kernel) ?_;(try replace hp:=hp.drew))|((with_reducible apply cl_id);(refine cl_eq ((inoneIP (hp.chg.cell0 h.c0))) rfl rfl ?_;rintro e w ⟨rfl,hcc⟩;replace hp:=hp.call0 hcc;refine ⟨_,rfl,?_⟩))|((with_reducible apply rd_id);(refine rd_lookM rfl (h.map.keep0 hp.chg) rfl idK Tryz.underlying250 (z:=Sl.nil) rfl k rfl hs ?_)))<;>(conv=>whnf)))
 exact ps_val (v':= .slice A1 s.l.length c1) rfl ⟨⟨A1,c1,s.l⟩,rfl,rfl,hp.made1 (j:=0) rfl⟩
theorem ieachIP {w0:World} (b:Nat) (k:Id):Calls Tryz.prog 170 #[ptr b,Id.v k] w0 fun e w'=>∃b2 b3,e= .returned (.func (.func 179) #[] #[ptr b2,ptr b3])∧Made (star [cel b3 48 (Id.c k).toArray,cel b2 199 #[ptr b]]) w0 w':=by
 have hp:=Hp.start (S:=N0) w0
 refine calls_x (args:= [_,_]) tabOk Tryz.func170 Tryz.ntmps170 Tryz.results170 rfl (Nat.le_of_ble_eq_true rfl) ?_
 ((conv=>whnf);repeat' ((first|((with_reducible apply al_id);refine al_cel hp ?_;clear hp;intro bb w hp)|((with_reducible apply gen_id);(refine gen_mkf rfl rfl ?_)))<;>(conv=>whnf)))
 exact ps_of ⟨_,_,rfl,hp.made (.refl _)⟩
abbrev iEachIP (b b2 b3:Nat) (k:Id):List Res:= [cel b3 48 (Id.c k).toArray,cel b2 199 #[ptr b]]
theorem iiterIP {w0:World} {b m b2 b3:Nat} {l:List (Id×Sl Plc)} {n:Int} {k:Id} (h:(star (iRsIP b m l n)).ok w0) (h3:(cel b3 48 (Id.c k).toArray).ok w0) (h2:(cel b2 199 #[ptr b]).ok w0) (hn:(idx l k).l.length≤1000000):
  Iter Tryz.prog (fun x=>(∃r∈iEachIP b b2 b3 k,r.dom x)∨(star (iRsIP b m l n)).dom x) 179 #[ptr b2,ptr b3] (fun v:Plc=> #[Plc.v v]) (idx l k).l w0:=by
 refine ⟨fun L R X r0 hR0 hR hdis hy=>?_⟩
 have hp:=Hp.start1 hR
 have hx2:¬r0.dom b2:=fun hh=>hdis _ hh (.inl ⟨_,List.mem_cons_of_mem _ (List.mem_cons_self ..),cel_dom.2 rfl⟩)
 have hx3:¬r0.dom b3:=fun hh=>hdis _ hh (.inl ⟨_,List.mem_cons_self ..,cel_dom.2 rfl⟩)
 have hxi:∀x,(star (iRsIP b m l n)).dom x→¬r0.dom x:=fun x hx hh=>hdis _ hh (.inr hx)
 obtain ⟨xs,hxs⟩:∃xs,(idx l k).l=xs:=⟨_,rfl⟩
 have hsat:=fun {w:World} (hc:Chg r0.dom w0 w)=>iatIP (idxAt ((star (iRsIP b m l n)).keep h hc hxi)) k hn
 rw [hxs] at hy hsat ⊢
 show Calls _ _ #[.func (.yield L) #[] #[],ptr b2,ptr b3] w0 _
 have us:=Tryz.underlying262
 refine calls_x (args:= [_,_,_]) tabOk Tryz.func179 Tryz.ntmps179 Tryz.results179 rfl (Nat.le_of_ble_eq_true rfl) ?_
 ((conv=>whnf);repeat' ((first|((with_reducible apply ld_id);(refine ld_of (hp.chg.cell (cell_of_heap (cel_ok.1 h2) rfl) hx2) ?_))|((with_reducible apply ldn_id);(refine ldn_heap (hp.chg.heap (cel_ok.1 h3) hx3) rfl ?_)))<;>(conv=>whnf)))
 refine cl_eq (hsat hp.chg) rfl rfl ?_
 rintro e w ⟨r,hr,rfl,hm⟩
 replace hp:=hp.add hm
 clear hm
 refine ⟨_,rfl,?_⟩
 subst hr
 have hmax:r.l.length≤9223372036854775807:=by have:=(hp.row (j:=0) rfl).le;have:=(hp.row (j:=0) rfl).max;simp only [maxLen] at this;omega
 ((conv=>whnf);repeat' (((with_reducible apply gen_id);apply gen_len;exact rfl;exact rfl;assumption)<;>(conv=>whnf)))
 refine lp_inv (α:=Nat) (fun i=> [(0, .func (.yield L) #[] #[]),(8,r.v),(9,i64 r.l.length),(10,i64 i)]) (fun i w=>i≤r.l.length∧∃q,R i q∧Hp r0.dom w0 w [rowR 202 2 Plc.c r,q]) (fun i=>r.l.length - i) 0 (by (repeat' (first|exact trivial|(refine ⟨rfl,?_⟩)))) ⟨by omega,r0,hR0,hp⟩ ?_
 clear hp
 rintro i e0 w ⟨hi,q,hq,hp⟩
 dsimp only at hi hp ⊢
 rcases Nat.lt_or_ge i r.l.length with hlt|hge
 ·obtain ⟨bb,oo,y,hA,hbb,hrow,hyy⟩:=(hp.row (j:=0) rfl).has hlt
  ((conv=>whnf);repeat' ((first|((with_reducible apply br_id);(with_reducible refine br_dec (fun hx=>?_) (fun hx=>?_))<;>(try (exfalso;first|omega|contradiction)))|((with_reducible apply cn_id);refine cn rfl ?_)|((with_reducible apply ldn_id);first|(refine ldn_ownx hp 0 rfl ‹_› _ rfl ‹_› rfl ?_)|(apply lda_hs hp;(focus repeat' constructor);exact rfl))|((with_reducible apply al_id);refine al_cel hp ?_;clear hp;intro bb w hp)|((with_reducible apply st_id);apply sta_hs hp;(focus repeat' constructor);exact rfl;exact rfl;clear hp;intro w hp;(try dsimp only [List.set] at hp))|((with_reducible apply gen_id);(refine gen_ixs rfl rfl ‹_› rfl rfl (by omega) ?_)))<;>(conv=>whnf)))
  refine yl_of (hy i y w q hq hyy (hp.shut1 (j:=2) rfl)) rfl ?_
  rintro e w (⟨rfl,q',hq',hm⟩|⟨rfl,q',hq',hm⟩)
  ·replace hp:=hp.via (j:=2) rfl hm
   dsimp only [List.set] at hp
   refine ⟨_,rfl,?_⟩
   ((conv=>whnf);repeat' ((first|((with_reducible apply br_id);first|with_reducible refine br_t ?_|with_reducible refine br_not ?_)|((with_reducible apply ar_id);refine ar_i64 (by omega) ?_))<;>(conv=>whnf)))
   exact lp_next (i+1) (by show r.l.length - (i+1) < r.l.length - i;omega) (by (repeat' (first|exact trivial|(refine ⟨rfl,?_⟩)))) ⟨by show i+1≤_;omega,q',hq',hp.tail⟩
  ·replace hp:=hp.via (j:=2) rfl hm
   dsimp only [List.set] at hp
   refine ⟨_,rfl,?_⟩
   ((conv=>whnf);repeat' (((with_reducible apply br_id);first|with_reducible refine br_f ?_|with_reducible refine br_not ?_)<;>(conv=>whnf)))
   exact ps_of ⟨⟨_,rfl⟩, .inr ⟨i,q',hlt,hq',hp.shut1 (j:=2) rfl⟩⟩
 ·((conv=>whnf);repeat' (((with_reducible apply br_id);(with_reducible refine br_dec (fun hx=>?_) (fun hx=>?_))<;>(try (exfalso;first|omega|contradiction)))<;>(conv=>whnf)))
  have:i=r.l.length:=by omega
  subst this
  exact ps_of ⟨⟨_,rfl⟩, .inl ⟨q,hq,hp.shut1 (j:=1) rfl⟩⟩
theorem ihasIP {w0:World} {b m:Nat} {l:List (Id×Sl Plc)} {n:Int} (h:(star (iRsIP b m l n)).ok w0) (k:Id) (v:Plc) (hn:(idx l k).l.length≤1000000):Calls Tryz.prog 155 #[ptr b,Id.v k,Plc.v v] w0 fun e w'=>e= .returned (.bool (decide (v∈(idx l k).l)))∧Chg N0 w0 w':=by
 have hp:=Hp.start (S:=N0) w0
 obtain ⟨xs,hxs⟩:∃xs,(idx l k).l=xs:=⟨_,rfl⟩
 refine calls_x (args:= [_,_,_]) tabOk Tryz.func155 Tryz.ntmps155 Tryz.results155 rfl (Nat.le_of_ble_eq_true rfl) ?_
 ((conv=>whnf);repeat' ((first|((with_reducible apply ldn_id);apply lda_hs hp;(focus repeat' constructor);exact rfl)|((with_reducible apply al_id);refine al_cel hp ?_;clear hp;intro bb w hp))<;>(conv=>whnf)))
 rename_i b5 w5
 obtain ⟨rest,hp⟩:∃rest,Hp N0 w0 w (cel bb 4 #[.bool false]::cel b5 202 (Plc.c v).toArray::rest):=⟨_,hp⟩
 obtain ⟨b6,hb6⟩:∃x,x=bb:=⟨_,rfl⟩
 subst hb6
 refine cl_eq (ieachIP b k) rfl rfl ?_
 rintro e w ⟨b2,b3,rfl,hm⟩
 replace hp:=(hp.add hm).unfold
 clear hm
 refine ⟨_,rfl,?_⟩
 ((conv=>whnf))
 have hst:(star (iRsIP b m l n)).ok w:=(star (iRsIP b m l n)).keep0 h hp.chg
 have hit:=fun (w1:World) (hc:Chg N0 w w1)=>iiterIP (k:=k) ((star (iRsIP b m l n)).keep0 hst hc) ((cel b3 48 (Id.c k).toArray).keep0 (hp.get (j:=0) rfl) hc) ((cel b2 199 #[ptr b]).keep0 (hp.get (j:=1) rfl) hc) hn
 have hp2:=hp.tail.tail.sub (List.take_sublist 2 _)
 have hp3:Hp N0 w0 w (iEachIP b b2 b3 k++List.take 2 (cel b6 4 #[.bool false]::cel b5 202 (Plc.c v).toArray::rest)):=hp.sub ((List.take_sublist 2 _).append_left (iEachIP b b2 b3 k))
 have hT:=iter_at (T:=(star (iRsIP b m l n)).dom) hp3 fun x hx=>⟨(star (iRsIP b m l n)).lt w0 h x hx,fun hh=>hh⟩
 rw [hxs] at hit ⊢
 refine rf_iter (es:=fun y=> [(11,Plc.v y)]) (rsI:=fun i q=>(∀y∈xs.take i,y≠v)∧q= [cel b6 4 #[.bool false],cel b5 202 (Plc.c v).toArray]) (rsX:=fun _ q=>v∈xs∧q= [cel b6 4 #[.bool true],cel b5 202 (Plc.c v).toArray]) hp2 (by kernel_rfl) (by kernel_rfl) rfl (enters tabOk (by kernel_rfl)) (fun _=>rfl) (fun _=>zip1 _ _) hT hit ⟨by simp,rfl⟩ .ret ⟨_,rfl⟩ ?_ ?_ ?_
 ·clear hp hp2 hp3 hT hit
  rintro i y L D o o' W _ ⟨hno,rfl⟩ hy hc hown hp
  ((conv=>whnf);repeat' ((first|((with_reducible apply br_id);(with_reducible refine br_s (fun hx=>?_) (fun hx=>?_))<;>(try (exfalso;first|omega|contradiction)))|((with_reducible apply cn_id);refine cn rfl ?_)|((with_reducible apply ldn_id);apply lda_hs hp;(focus repeat' constructor);exact rfl)|((with_reducible apply al_id);refine al_cel hp ?_;clear hp;intro bb w hp)|((with_reducible apply st_id);apply sta_hs hp;(focus repeat' constructor);exact rfl;exact rfl;clear hp;intro w hp;(try dsimp only [List.set] at hp))|((with_reducible apply gen_id);(refine gen_eqa rfl rfl rfl (eq_plc y v) (by kernel_rfl) (.inl rfl) ?_))|((with_reducible apply bg_id);(refine bg_hs hp 1 rfl ?_);clear hp;intro w hp;(try dsimp only [List.set] at hp)))<;>(conv=>whnf)))
  ·have hx':y=v:=by simpa using hx
   exact bo ⟨rfl,_,⟨hx'▸List.mem_of_getElem? hy,rfl⟩,hp.tail⟩
  ·refine bo ⟨_,⟨fun z hz=>?_,rfl⟩,hp.tail⟩
   rw [List.take_add_one,hy] at hz
   rcases List.mem_append.1 hz with hz|hz
   ·exact hno z hz
   ·simp at hz
    subst hz
    have hx':¬z=v:=by simpa using hx
    exact hx'
 ·clear hp hp2 hp3 hT hit
  rintro L D o W _ ⟨hf,rfl⟩ hp
  rw [List.take_length] at hf
  ((conv=>whnf);repeat' ((first|((with_reducible apply cn_id);refine cn rfl ?_)|((with_reducible apply ld_id);apply ld_hs hp;(focus repeat' constructor);exact rfl)|((with_reducible apply st_id);apply sta_hs hp;(focus repeat' constructor);exact rfl;exact rfl;clear hp;intro w hp;(try dsimp only [List.set] at hp))|((with_reducible apply td_id);(refine td_hs hp 1 rfl ?_);clear hp;intro w hp;(try dsimp only [List.set] at hp)))<;>(conv=>whnf)))
  exact ps_val (v':= .bool false) rfl ⟨by rw [decide_eq_false fun hh=>hf v hh rfl],hp.chg⟩
 ·clear hp hp2 hp3 hT hit
  rintro i L D o W _ hi ⟨hf,rfl⟩ hp
  ((conv=>whnf);repeat' ((first|((with_reducible apply ld_id);apply ld_hs hp;(focus repeat' constructor);exact rfl)|((with_reducible apply td_id);(refine td_hs hp 1 rfl ?_);clear hp;intro w hp;(try dsimp only [List.set] at hp)))<;>(conv=>whnf)))
  exact ps_val (v':= .bool true) rfl ⟨by rw [decide_eq_true hf],hp.chg⟩
abbrev iRsHI (b m:Nat) (l:List (Hint×Sl Id)) (n:Int):List Res:=idxRs 255 48 32 Hint.v Id.c b m l n
theorem inoneHI {w0:World} {b m:Nat} (hc:w0.cell? ⟨b,0,none⟩=some (.map (some m))):Calls Tryz.prog 156 #[ptr b] w0 fun e w'=>e= .returned (.bool false)∧Chg N0 w0 w':=by
 have hp:=Hp.start (S:=N0) w0
 refine calls_x (args:= [_]) tabOk Tryz.func156 Tryz.ntmps156 Tryz.results156 rfl (Nat.le_of_ble_eq_true rfl) ?_
 ((conv=>whnf);repeat' ((first|((with_reducible apply br_id);with_reducible refine br_f ?_)|((with_reducible apply ld_id);(refine ld_of (hp.chg.cell0 hc) ?_)))<;>(conv=>whnf)))
 exact ps_val (v':= .bool false) rfl ⟨rfl,hp.chg⟩
theorem inewHI {w0:World}:Calls Tryz.prog 131 #[] w0 fun e w'=>∃b m,e= .returned (ptr b)∧Made (star (iRsHI b m [] 0)) w0 w':=by
 have hp:=Hp.start (S:=N0) w0
 refine calls_x (args:= []) tabOk Tryz.func131 Tryz.ntmps131 Tryz.results131 rfl (Nat.le_of_ble_eq_true rfl) ?_
 ((conv=>whnf);repeat' ((first|((with_reducible apply al_id);refine al_cel hp ?_;clear hp;intro bb w hp)|((with_reducible apply gen_id);first|((refine gen_mmake rfl Hint.v (Sl.v (α:=Id)) hp ?_);clear hp;intro bb w hp)|(apply gen_build;exact rfl;exact rfl)))<;>(conv=>whnf)))
 exact ps_of ⟨_,_,rfl,hp.made (.refl _)⟩
theorem iatHI {w0:World} {b m:Nat} {l:List (Hint×Sl Id)} {n:Int} (h:IdxAt Hint.v Id.c 32 w0 b m l n) (k:Hint) (hn:(idx l k).l.length≤1000000):Calls Tryz.prog 182 #[ptr b,Hint.v k] w0 fun e w'=>∃r:Sl Id,r.l=(idx l k).l∧e= .returned r.v∧Made (rowR 48 32 Id.c r) w0 w':=by
 have hp:=Hp.start (S:=N0) w0
 have hB:∀b,N0 b→w0.heap.size≤b:=fun _ hh=>hh.elim
 have hsa:=h.idx k
 obtain ⟨s,hs⟩:∃s,idx l k=s:=⟨_,rfl⟩
 rw [hs] at hn hsa ⊢
 refine calls_x (args:= [_,_]) tabOk Tryz.func182 Tryz.ntmps182 Tryz.results182 rfl (Nat.le_of_ble_eq_true rfl) ?_
 ((conv=>whnf);repeat' ((first|((with_reducible apply br_id);with_reducible refine br_f ?_)|((with_reducible apply ld_id);(refine ld_of (hp.chg.cell0 h.c0) ?_))|((with_reducible apply ldn_id);apply lda_hs hp;(focus repeat' constructor);exact rfl)|((with_reducible apply al_id);refine al_cel hp ?_;clear hp;intro bb w hp)|((with_reducible apply gen_id);(refine gen_app0 rfl hp el_id rfl s rfl (hsa.keep hp.chg hB) (fun _ _=>rfl) idL_one (by omega) (by simp only [maxLen];omega) ?_);clear hp;intro A1 c1 w hcc hp)|((with_reducible apply dr_id);refine dr_auto tabOk (by kernel_rfl) (by decide+kernel) ?_;(try replace hp:=hp.drew))|((with_reducible apply cl_id);(refine cl_eq ((inoneHI (hp.chg.cell0 h.c0))) rfl rfl ?_;rintro e w ⟨rfl,hcc⟩;replace hp:=hp.call0 hcc;refine ⟨_,rfl,?_⟩))|((with_reducible apply rd_id);(refine rd_lookM rfl (h.map.keep0 hp.chg) rfl hintK Tryz.underlying253 (z:=Sl.nil) rfl k rfl hs ?_)))<;>(conv=>whnf)))
 exact ps_val (v':= .slice A1 s.l.length c1) rfl ⟨⟨A1,c1,s.l⟩,rfl,rfl,hp.made1 (j:=0) rfl⟩
theorem ieachHI {w0:World} (b:Nat) (k:Hint):Calls Tryz.prog 171 #[ptr b,Hint.v k] w0 fun e w'=>∃b2 b3,e= .returned (.func (.func 181) #[] #[ptr b2,ptr b3])∧Made (star [cel b3 44 (Hint.c k).toArray,cel b2 203 #[ptr b]]) w0 w':=by
 have hp:=Hp.start (S:=N0) w0
 refine calls_x (args:= [_,_]) tabOk Tryz.func171 Tryz.ntmps171 Tryz.results171 rfl (Nat.le_of_ble_eq_true rfl) ?_
 ((conv=>whnf);repeat' ((first|((with_reducible apply al_id);refine al_cel hp ?_;clear hp;intro bb w hp)|((with_reducible apply gen_id);(refine gen_mkf rfl rfl ?_)))<;>(conv=>whnf)))
 exact ps_of ⟨_,_,rfl,hp.made (.refl _)⟩
abbrev iEachHI (b b2 b3:Nat) (k:Hint):List Res:= [cel b3 44 (Hint.c k).toArray,cel b2 203 #[ptr b]]
theorem iiterHI {w0:World} {b m b2 b3:Nat} {l:List (Hint×Sl Id)} {n:Int} {k:Hint} (h:(star (iRsHI b m l n)).ok w0) (h3:(cel b3 44 (Hint.c k).toArray).ok w0) (h2:(cel b2 203 #[ptr b]).ok w0) (hn:(idx l k).l.length≤1000000):
  Iter Tryz.prog (fun x=>(∃r∈iEachHI b b2 b3 k,r.dom x)∨(star (iRsHI b m l n)).dom x) 181 #[ptr b2,ptr b3] (fun v:Id=> #[Id.v v]) (idx l k).l w0:=by
 refine ⟨fun L R X r0 hR0 hR hdis hy=>?_⟩
 have hp:=Hp.start1 hR
 have hx2:¬r0.dom b2:=fun hh=>hdis _ hh (.inl ⟨_,List.mem_cons_of_mem _ (List.mem_cons_self ..),cel_dom.2 rfl⟩)
 have hx3:¬r0.dom b3:=fun hh=>hdis _ hh (.inl ⟨_,List.mem_cons_self ..,cel_dom.2 rfl⟩)
 have hxi:∀x,(star (iRsHI b m l n)).dom x→¬r0.dom x:=fun x hx hh=>hdis _ hh (.inr hx)
 obtain ⟨xs,hxs⟩:∃xs,(idx l k).l=xs:=⟨_,rfl⟩
 have hsat:=fun {w:World} (hc:Chg r0.dom w0 w)=>iatHI (idxAt ((star (iRsHI b m l n)).keep h hc hxi)) k hn
 rw [hxs] at hy hsat ⊢
 show Calls _ _ #[.func (.yield L) #[] #[],ptr b2,ptr b3] w0 _
 have us:=Tryz.underlying49
 refine calls_x (args:= [_,_,_]) tabOk Tryz.func181 Tryz.ntmps181 Tryz.results181 rfl (Nat.le_of_ble_eq_true rfl) ?_
 ((conv=>whnf);repeat' ((first|((with_reducible apply ld_id);(refine ld_of (hp.chg.cell (cell_of_heap (cel_ok.1 h2) rfl) hx2) ?_))|((with_reducible apply ldn_id);(refine ldn_heap (hp.chg.heap (cel_ok.1 h3) hx3) rfl ?_)))<;>(conv=>whnf)))
 refine cl_eq (hsat hp.chg) rfl rfl ?_
 rintro e w ⟨r,hr,rfl,hm⟩
 replace hp:=hp.add hm
 clear hm
 refine ⟨_,rfl,?_⟩
 subst hr
 have hmax:r.l.length≤9223372036854775807:=by have:=(hp.row (j:=0) rfl).le;have:=(hp.row (j:=0) rfl).max;simp only [maxLen] at this;omega
 ((conv=>whnf);repeat' (((with_reducible apply gen_id);apply gen_len;exact rfl;exact rfl;assumption)<;>(conv=>whnf)))
 refine lp_inv (α:=Nat) (fun i=> [(0, .func (.yield L) #[] #[]),(8,r.v),(9,i64 r.l.length),(10,i64 i)]) (fun i w=>i≤r.l.length∧∃q,R i q∧Hp r0.dom w0 w [rowR 48 32 Id.c r,q]) (fun i=>r.l.length - i) 0 (by (repeat' (first|exact trivial|(refine ⟨rfl,?_⟩)))) ⟨by omega,r0,hR0,hp⟩ ?_
 clear hp
 rintro i e0 w ⟨hi,q,hq,hp⟩
 dsimp only at hi hp ⊢
 rcases Nat.lt_or_ge i r.l.length with hlt|hge
 ·obtain ⟨bb,oo,y,hA,hbb,hrow,hyy⟩:=(hp.row (j:=0) rfl).has hlt
  ((conv=>whnf);repeat' ((first|((with_reducible apply br_id);(with_reducible refine br_dec (fun hx=>?_) (fun hx=>?_))<;>(try (exfalso;first|omega|contradiction)))|((with_reducible apply cn_id);refine cn rfl ?_)|((with_reducible apply ldn_id);first|(refine ldn_ownx hp 0 rfl ‹_› _ rfl ‹_› rfl ?_)|(apply lda_hs hp;(focus repeat' constructor);exact rfl))|((with_reducible apply al_id);refine al_cel hp ?_;clear hp;intro bb w hp)|((with_reducible apply st_id);apply sta_hs hp;(focus repeat' constructor);exact rfl;exact rfl;clear hp;intro w hp;(try dsimp only [List.set] at hp))|((with_reducible apply gen_id);(refine gen_ixs rfl rfl ‹_› rfl rfl (by omega) ?_)))<;>(conv=>whnf)))
  refine yl_of (hy i y w q hq hyy (hp.shut1 (j:=2) rfl)) rfl ?_
  rintro e w (⟨rfl,q',hq',hm⟩|⟨rfl,q',hq',hm⟩)
  ·replace hp:=hp.via (j:=2) rfl hm
   dsimp only [List.set] at hp
   refine ⟨_,rfl,?_⟩
   ((conv=>whnf);repeat' ((first|((with_reducible apply br_id);first|with_reducible refine br_t ?_|with_reducible refine br_not ?_)|((with_reducible apply ar_id);refine ar_i64 (by omega) ?_))<;>(conv=>whnf)))
   exact lp_next (i+1) (by show r.l.length - (i+1) < r.l.length - i;omega) (by (repeat' (first|exact trivial|(refine ⟨rfl,?_⟩)))) ⟨by show i+1≤_;omega,q',hq',hp.tail⟩
  ·replace hp:=hp.via (j:=2) rfl hm
   dsimp only [List.set] at hp
   refine ⟨_,rfl,?_⟩
   ((conv=>whnf);repeat' (((with_reducible apply br_id);first|with_reducible refine br_f ?_|with_reducible refine br_not ?_)<;>(conv=>whnf)))
   exact ps_of ⟨⟨_,rfl⟩, .inr ⟨i,q',hlt,hq',hp.shut1 (j:=2) rfl⟩⟩
 ·((conv=>whnf);repeat' (((with_reducible apply br_id);(with_reducible refine br_dec (fun hx=>?_) (fun hx=>?_))<;>(try (exfalso;first|omega|contradiction)))<;>(conv=>whnf)))
  have:i=r.l.length:=by omega
  subst this
  exact ps_of ⟨⟨_,rfl⟩, .inl ⟨q,hq,hp.shut1 (j:=1) rfl⟩⟩
theorem ihasHI {w0:World} {b m:Nat} {l:List (Hint×Sl Id)} {n:Int} (h:(star (iRsHI b m l n)).ok w0) (k:Hint) (v:Id) (hn:(idx l k).l.length≤1000000):Calls Tryz.prog 157 #[ptr b,Hint.v k,Id.v v] w0 fun e w'=>e= .returned (.bool (decide (v∈(idx l k).l)))∧Chg N0 w0 w':=by
 have hp:=Hp.start (S:=N0) w0
 obtain ⟨xs,hxs⟩:∃xs,(idx l k).l=xs:=⟨_,rfl⟩
 refine calls_x (args:= [_,_,_]) tabOk Tryz.func157 Tryz.ntmps157 Tryz.results157 rfl (Nat.le_of_ble_eq_true rfl) ?_
 ((conv=>whnf);repeat' ((first|((with_reducible apply ldn_id);apply lda_hs hp;(focus repeat' constructor);exact rfl)|((with_reducible apply al_id);refine al_cel hp ?_;clear hp;intro bb w hp))<;>(conv=>whnf)))
 rename_i b5 w5
 obtain ⟨rest,hp⟩:∃rest,Hp N0 w0 w (cel bb 4 #[.bool false]::cel b5 48 (Id.c v).toArray::rest):=⟨_,hp⟩
 obtain ⟨b6,hb6⟩:∃x,x=bb:=⟨_,rfl⟩
 subst hb6
 refine cl_eq (ieachHI b k) rfl rfl ?_
 rintro e w ⟨b2,b3,rfl,hm⟩
 replace hp:=(hp.add hm).unfold
 clear hm
 refine ⟨_,rfl,?_⟩
 ((conv=>whnf))
 have hst:(star (iRsHI b m l n)).ok w:=(star (iRsHI b m l n)).keep0 h hp.chg
 have hit:=fun (w1:World) (hc:Chg N0 w w1)=>iiterHI (k:=k) ((star (iRsHI b m l n)).keep0 hst hc) ((cel b3 44 (Hint.c k).toArray).keep0 (hp.get (j:=0) rfl) hc) ((cel b2 203 #[ptr b]).keep0 (hp.get (j:=1) rfl) hc) hn
 have hp2:=hp.tail.tail.sub (List.take_sublist 2 _)
 have hp3:Hp N0 w0 w (iEachHI b b2 b3 k++List.take 2 (cel b6 4 #[.bool false]::cel b5 48 (Id.c v).toArray::rest)):=hp.sub ((List.take_sublist 2 _).append_left (iEachHI b b2 b3 k))
 have hT:=iter_at (T:=(star (iRsHI b m l n)).dom) hp3 fun x hx=>⟨(star (iRsHI b m l n)).lt w0 h x hx,fun hh=>hh⟩
 rw [hxs] at hit ⊢
 refine rf_iter (es:=fun y=> [(11,Id.v y)]) (rsI:=fun i q=>(∀y∈xs.take i,y≠v)∧q= [cel b6 4 #[.bool false],cel b5 48 (Id.c v).toArray]) (rsX:=fun _ q=>v∈xs∧q= [cel b6 4 #[.bool true],cel b5 48 (Id.c v).toArray]) hp2 (by kernel_rfl) (by kernel_rfl) rfl (enters tabOk (by kernel_rfl)) (fun _=>rfl) (fun _=>zip1 _ _) hT hit ⟨by simp,rfl⟩ .ret ⟨_,rfl⟩ ?_ ?_ ?_
 ·clear hp hp2 hp3 hT hit
  rintro i y L D o o' W _ ⟨hno,rfl⟩ hy hc hown hp
  ((conv=>whnf);repeat' ((first|((with_reducible apply br_id);(with_reducible refine br_s (fun hx=>?_) (fun hx=>?_))<;>(try (exfalso;first|omega|contradiction)))|((with_reducible apply cn_id);refine cn rfl ?_)|((with_reducible apply ldn_id);apply lda_hs hp;(focus repeat' constructor);exact rfl)|((with_reducible apply al_id);refine al_cel hp ?_;clear hp;intro bb w hp)|((with_reducible apply st_id);apply sta_hs hp;(focus repeat' constructor);exact rfl;exact rfl;clear hp;intro w hp;(try dsimp only [List.set] at hp))|((with_reducible apply gen_id);(refine gen_eqa rfl rfl rfl (eq_id y v) (by kernel_rfl) (.inl rfl) ?_))|((with_reducible apply bg_id);(refine bg_hs hp 1 rfl ?_);clear hp;intro w hp;(try dsimp only [List.set] at hp)))<;>(conv=>whnf)))
  ·have hx':y=v:=by simpa using hx
   exact bo ⟨rfl,_,⟨hx'▸List.mem_of_getElem? hy,rfl⟩,hp.tail⟩
  ·refine bo ⟨_,⟨fun z hz=>?_,rfl⟩,hp.tail⟩
   rw [List.take_add_one,hy] at hz
   rcases List.mem_append.1 hz with hz|hz
   ·exact hno z hz
   ·simp at hz
    subst hz
    have hx':¬z=v:=by simpa using hx
    exact hx'
 ·clear hp hp2 hp3 hT hit
  rintro L D o W _ ⟨hf,rfl⟩ hp
  rw [List.take_length] at hf
  ((conv=>whnf);repeat' ((first|((with_reducible apply cn_id);refine cn rfl ?_)|((with_reducible apply ld_id);apply ld_hs hp;(focus repeat' constructor);exact rfl)|((with_reducible apply st_id);apply sta_hs hp;(focus repeat' constructor);exact rfl;exact rfl;clear hp;intro w hp;(try dsimp only [List.set] at hp))|((with_reducible apply td_id);(refine td_hs hp 1 rfl ?_);clear hp;intro w hp;(try dsimp only [List.set] at hp)))<;>(conv=>whnf)))
  exact ps_val (v':= .bool false) rfl ⟨by rw [decide_eq_false fun hh=>hf v hh rfl],hp.chg⟩
 ·clear hp hp2 hp3 hT hit
  rintro i L D o W _ hi ⟨hf,rfl⟩ hp
  ((conv=>whnf);repeat' ((first|((with_reducible apply ld_id);apply ld_hs hp;(focus repeat' constructor);exact rfl)|((with_reducible apply td_id);(refine td_hs hp 1 rfl ?_);clear hp;intro w hp;(try dsimp only [List.set] at hp)))<;>(conv=>whnf)))
  exact ps_val (v':= .bool true) rfl ⟨by rw [decide_eq_true hf],hp.chg⟩
section
variable {α : Type} {P : Program} {w : World} {ρ : Operand → Value} {o : Oper} {t e : TypeId} {x hi : Operand}
theorem rd_arrh {g:Value→Prop} (hop:o.op= .slice t x none (some hi) none) {n:Nat} (ht:P.underlying t=some (.array n e)) {b ofs:Nat} (hx:ρ x= .pointer (some ⟨b,ofs,none⟩)) (he:∃i,P.info? e=some i∧i.size=1) {k:IntKind} {m:Int} (hh:ρ hi= .int k m) (q:Nat) (hm:m=q) (hq:q≤n) (hn0:0 < n) (hk:g (.slice (some ⟨b,ofs,none⟩) q n)):Rd P ρ o w g:=by
 obtain ⟨i,hi,hs⟩:=he
 subst hm
 have h1:(0:Int)≤(q:Int)∧(q:Int)≤(n:Int):=by omega
 have h2:¬n=0:=by omega
 exact ⟨.slice (some ⟨b,ofs,none⟩) q n,fun w' _=>by simp [execOp,hop,hx,hh,Instr.sliceAt,Instr.sureAddr,run_underlying ht,Instr.sliceBounds,Instr.sliceBound,asIntOf,sizeOf,typeInfo,hi,hs,add_plain,hq,h1,h2],hk⟩
theorem rd_s2ap {g:Value→Prop} (hop:o.op= .sliceToArrayPointer t x) {n:Nat} (ht:P.underlying t=some (.array n e)) {a:Option Addr} {l c:Nat} (hx:ρ x= .slice a l c) (hl:n≤l) (hk:g (.pointer a)):Rd P ρ o w g:=
 ⟨.pointer a,fun w' _=>by simp [execOp,hop,hx,Instr.arrayAt,run_underlying ht,Nat.not_lt.2 hl],hk⟩
theorem gen_arrh {g:Value→World→Prop} (hop:o.op= .slice t x none (some hi) none) {n:Nat} (ht:P.underlying t=some (.array n e)) {b ofs:Nat} (hx:ρ x= .pointer (some ⟨b,ofs,none⟩)) (he:∃i,P.info? e=some i∧i.size=1) {k:IntKind} {m:Int} (hh:ρ hi= .int k m) (q:Nat) (hm:m=q) (hq:q≤n) (hn0:0 < n) (hk:g (.slice (some ⟨b,ofs,none⟩) q n) w):Gen P ρ o w g:=by
 obtain ⟨v',h1,h2⟩:=rd_arrh (g:=fun v=>g v w) (w:=w) hop ht hx he hh q hm hq hn0 hk
 exact gen_v (h1 w (Chg.refl _ _)) h2
theorem gen_s2ap {g:Value→World→Prop} (hop:o.op= .sliceToArrayPointer t x) {n:Nat} (ht:P.underlying t=some (.array n e)) {a:Option Addr} {l c:Nat} (hx:ρ x= .slice a l c) (hl:n≤l) (hk:g (.pointer a) w):Gen P ρ o w g:=by
 obtain ⟨v',h1,h2⟩:=rd_s2ap (g:=fun v=>g v w) (w:=w) hop ht hx hl hk
 exact gen_v (h1 w (Chg.refl _ _)) h2
end
def hintOf (x:Id):Hint:= #v[x[0],x[1],x[2],x[3],x[4],x[5],x[6],x[7],x[8],x[9],x[10],x[11],x[12],x[13],x[14],x[15]]
theorem hintof_any (w0:World) (x:Id):Calls Tryz.prog 137 #[x.v] w0 fun e w'=>e= .returned (hintOf x).v∧Chg N0 w0 w':=by
 have hp:=Hp.start (S:=N0) w0
 obtain ⟨i8,hi8,hs8⟩:∃i,Tryz.prog.info? 5=some i∧i.size=1:=⟨_,rfl,rfl⟩
 refine calls_x (args:= [_]) tabOk Tryz.func137 Tryz.ntmps137 Tryz.results137 rfl (Nat.le_of_ble_eq_true rfl) ?_
 ((conv=>whnf);repeat' ((first|((with_reducible apply cn_id);refine cn rfl ?_)|((with_reducible apply ldn_id);first|(apply lda_hs hp;(focus repeat' constructor);exact rfl)|(apply ldn_hs hp;(focus repeat' constructor);exact rfl;exact rfl))|((with_reducible apply al_id);refine al_cel hp ?_;clear hp;intro bb w hp)|((with_reducible apply st_id);apply sta_hs hp;(focus repeat' constructor);exact rfl;exact rfl;clear hp;intro w hp;(try dsimp only [List.set] at hp))|((with_reducible apply gen_id);first|(refine gen_arrh rfl Tryz.underlying48 rfl ⟨i8,hi8,hs8⟩ rfl 16 rfl (by omega) (by omega) ?_)|(refine gen_s2ap rfl Tryz.underlying44 rfl (by omega) ?_)))<;>(conv=>whnf)))
 exact ps_val (v':=(hintOf x).v) rfl ⟨rfl,hp.chg⟩
def plcLt (a b:Plc):Prop:=(a.h.toNat:Int) < b.h.toNat∨((a.h.toNat:Int)=b.h.toNat∧a.at' < b.at')
instance (a b:Plc):Decidable (plcLt a b):=by unfold plcLt;infer_instance
structure Snx where
 low:UInt32
 bs:Sl Blk
 bw:Nat
 mw:Nat
 lw:List (Id×Sl Plc)
 nw:Int
 bh:Nat
 mh:Nat
 lh:List (Hint×Sl Id)
 nh:Int
abbrev Snx.c (X:Snx):List Value:= [X.bs.v,u32 X.low,ptr X.bw,ptr X.bh]
structure SnAt (w:World) (b:Nat) (X:Snx):Prop where
 cel:w.heap[b]? =some (.cells X.c.toArray 206)
 wh:IdxAt Id.v Plc.c 2 w X.bw X.mw X.lw X.nw
 hi:IdxAt Hint.v Id.c 32 w X.bh X.mh X.lh X.nh
 bs:SlAt w.heap.size w Blk.c 65 X.bs
theorem SnAt.keep0 {w w':World} {b:Nat} {X:Snx} (h:SnAt w b X) (hc:Chg N0 w w'):SnAt w' b X:=
 ⟨hc.heap h.cel fun hh=>hh,h.wh.keep0 hc,h.hi.keep0 hc,(h.bs.keep hc fun _ hh=>hh.elim).more hc.size⟩
theorem SnAt.cell {w:World} {b:Nat} {X:Snx} (h:SnAt w b X) {i:Nat} {v:Value} (hi:X.c[i]? =some v):w.cell? ⟨b,i,none⟩=some v:=cell_of_heap h.cel (by simpa using hi)
theorem snone_any {w0:World} {b:Nat} {X:Snx} (h:SnAt w0 b X):Calls Tryz.prog 134 #[ptr b] w0 fun e w'=>e= .returned (.bool false)∧Chg N0 w0 w':=by
 have hp:=Hp.start (S:=N0) w0
 refine calls_x (args:= [_]) tabOk Tryz.func134 Tryz.ntmps134 Tryz.results134 rfl (Nat.le_of_ble_eq_true rfl) ?_
 ((conv=>whnf);repeat' ((first|((with_reducible apply br_id);with_reducible refine br_f ?_)|((with_reducible apply ld_id);(refine ld_of ((h.keep0 hp.chg).cell rfl) ?_)))<;>(conv=>whnf)))
 exact ps_val (v':= .bool false) rfl ⟨rfl,hp.chg⟩
end Go.Proofs.YtpbapnlnheahnaaGreatDoor
