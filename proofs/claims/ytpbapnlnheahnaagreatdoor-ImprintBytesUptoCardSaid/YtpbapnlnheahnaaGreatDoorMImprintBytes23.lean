/- MImprintBytes23: parts of the proof of ImprintBytes: HintIP2, HintIP3, SixId, HintHI2, HintHI3, Frz, BlkR, SeenI, Seen1, Rdx, Seen2, Chain. No condition of their own. -/
import Derived.Test.YtpbapnlnheahnaaGreatDoorMImprintBytes18
import Derived.Test.YtpbapnlnheahnaaGreatDoorMImprintBytes22
import Derived.Test.YtpbapnlnheahnaaGreatDoorMImprintBytes16
import Derived.Test.YtpbapnlnheahnaaGreatDoorMImprintBytes8
import Derived.Test.YtpbapnlnheahnaaGreatDoorMImprintBytes11
import Derived.Test.YtpbapnlnheahnaaGreatDoorMImprintBytes9
import Derived.Test.YtpbapnlnheahnaaGreatDoorMImprintBytes14
import Derived.Test.YtpbapnlnheahnaaGreatDoorMImprintBytes21
set_option linter.unusedSimpArgs false
set_option linter.unusedVariables false
namespace Go.Proofs.YtpbapnlnheahnaaGreatDoor
open Go.RowKit
set_option maxRecDepth 100000
set_option maxHeartbeats 2000000
theorem inoteIP {w0:World} {b m:Nat} {l:List (Id×Sl Plc)} {n:Int} (h:(star (iRsIP b m l n)).ok w0) (k:Id) (v:Plc) (hn:(idx l k).l.length≤100000) (hn2: -1000000≤n∧n≤1000000):Calls Tryz.prog 135 #[ptr b,Id.v k,Plc.v v] w0 fun e w'=>
  (v∈(idx l k).l∧e= .returned (.bool false)∧Chg N0 w0 w')∨(v∉(idx l k).l∧e= .returned (.bool true)∧∃s':Sl Plc,s'.l=(idx l k).l++ [v]∧Mut (star (iRsIP b m l n)) (star (iRsIP b m (mput l k s') (n+1))) w0 w'):=by
 have hI:=idxAt h
 by_cases hv:v∈(idx l k).l
 ·have hp:=Hp.start (S:=N0) w0
  have hhas:∀{w:World},Chg N0 w0 w→Calls Tryz.prog 155 #[ptr b,Id.v k,Plc.v v] w fun e w'=>e= .returned (.bool true)∧Chg N0 w w':=fun hc=>by
   have:=ihasIP ((star (iRsIP b m l n)).keep0 h hc) k v (by omega)
   rwa [decide_eq_true hv] at this
  refine calls_x (args:= [_,_,_]) tabOk Tryz.func135 Tryz.ntmps135 Tryz.results135 rfl (Nat.le_of_ble_eq_true rfl) ?_
  ((conv=>whnf);repeat' ((first|((with_reducible apply br_id);first|with_reducible refine br_t ?_|with_reducible refine br_f ?_)|((with_reducible apply ldn_id);apply lda_hs hp;(focus repeat' constructor);exact rfl)|((with_reducible apply al_id);refine al_cel hp ?_;clear hp;intro bb w hp)|((with_reducible apply cl_id);first|((refine cl_eq ((inoneIP (hp.chg.cell0 hI.c0))) rfl rfl ?_;rintro e w ⟨rfl,hcc⟩;replace hp:=hp.call0 hcc;refine ⟨_,rfl,?_⟩))|((refine cl_eq ((hhas hp.chg)) rfl rfl ?_;rintro e w ⟨rfl,hcc⟩;replace hp:=hp.call0 hcc;refine ⟨_,rfl,?_⟩))))<;>(conv=>whnf)))
  exact ps_val (v':= .bool false) rfl (.inl ⟨hv,rfl,hp.chg⟩)
 ·have hp:=Hp.open h
  have hhas:∀{w:World} {c:List Res},Hp (star (iRsIP b m l n)).dom w0 w (c++iRsIP b m l n)→Calls Tryz.prog 155 #[ptr b,Id.v k,Plc.v v] w fun e w'=>e= .returned (.bool false)∧Chg N0 w w':=fun {w c} hp=>by
   have h1:(star (iRsIP b m l n)).ok w:=(hp.sub (List.sublist_append_right c _)).fold1.get (j:=0) rfl
   have:=ihasIP h1 k v (by omega)
   rwa [decide_eq_false hv] at this
  have hkk:EqIs Tryz.prog 48 (Id.v k) (Id.v k) true:=by have:=eq_id k k;rwa [decide_eq_true rfl] at this
  have hbn:(if BinOp.neq=BinOp.eql then true else !true)=false:=rfl
  refine calls_x (args:= [_,_,_]) tabOk Tryz.func135 Tryz.ntmps135 Tryz.results135 rfl (Nat.le_of_ble_eq_true rfl) ?_
  ((conv=>whnf);repeat' ((first|((with_reducible apply br_id);first|(with_reducible refine br_0 hbn ?_)|with_reducible refine br_f ?_)|((with_reducible apply ldn_id);apply lda_hs hp;(focus repeat' constructor);exact rfl)|((with_reducible apply al_id);refine al_cel hp ?_;clear hp;intro bb w hp)|((with_reducible apply gen_id);(refine gen_eqa rfl rfl rfl hkk (by kernel_rfl) (.inr rfl) ?_))|((with_reducible apply cl_id);first|((refine cl_eq ((inoneIP (cell_of_heap (hp.cel_get (j:=2) rfl) rfl))) rfl rfl ?_;rintro e w ⟨rfl,hcc⟩;replace hp:=hp.call0 hcc;refine ⟨_,rfl,?_⟩))|((refine cl_eq ((hhas (c:= [_,_]) hp)) rfl rfl ?_;rintro e w ⟨rfl,hcc⟩;replace hp:=hp.call0 hcc;refine ⟨_,rfl,?_⟩))))<;>(conv=>whnf)))
  obtain ⟨rest,hp,hperm, -⟩:=idx_out (c:= [_,_]) k hp
  have hl1:=(hp.row (j:=0) rfl).le
  refine dr_autos [1,2,3,4] 13 tabOk (by kernel_rfl) (by decide+kernel) ?_
  replace hp:=hp.drew
  ((conv=>whnf);repeat' ((first|((with_reducible apply ar_id);refine ar_i64 (by omega) ?_)|((with_reducible apply cn_id);first|refine cn rfl ?_|refine cn (Chg.refl _ _) ?_)|((with_reducible apply ld_id);apply ld_hs hp;(focus repeat' constructor);exact rfl)|((with_reducible apply ldn_id);apply lda_hs hp;(focus repeat' constructor);exact rfl)|((with_reducible apply st_id);apply st_hs hp;(focus repeat' constructor);exact rfl;exact rfl;clear hp;intro w hp;(try dsimp only [List.set] at hp))|((with_reducible apply gen_id);first|((refine gen_bs rfl hp el_plc Plc.c [v] [Plc.v v] rfl rfl rfl (fun _ hh=>by simp at hh;subst hh;rfl) (by omega) ?_);clear hp;intro br w hp)|((refine gen_app (s:=idx l k) rfl hp 1 rfl el_plc rfl ⟨some ⟨br,0,none⟩,1, [v]⟩ rfl (hp.row (j:=0) rfl) (fun _ _=>rfl) plc_one (by simp only [List.length_cons,List.length_nil];omega) (by simp only [maxLen,List.length_cons,List.length_nil];omega) ?_);clear hp;intro A2 c2 w hp;dsimp only [List.set] at hp)|((refine gen_put rfl hp 5 rfl rfl idK Tryz.underlying250 k rfl (⟨A2,c2,(idx l k).l++ [v]⟩:Sl Plc) rfl ?_);clear hp;intro w hp;dsimp only [List.set] at hp))|((with_reducible apply fk_id);refine fk_mk ?_ ?_)|((with_reducible apply rd_id);(refine rd_look rfl hp 4 rfl rfl idK Tryz.underlying250 (z:=Sl.nil) rfl k rfl ?_)))<;>(conv=>whnf)))
  all_goals
   have hp3:=idx_back (l':=mput l k ⟨A2,c2,(idx l k).l++ [v]⟩) (c:= [_,_]) hp.tail (hperm ⟨A2,c2,(idx l k).l++ [v]⟩)
   exact ps_val (v':= .bool true) rfl (.inr ⟨hv,rfl,⟨A2,c2,(idx l k).l++ [v]⟩,rfl,hp3.shut (List.sublist_append_right _ _)⟩)
theorem inoteHI {w0:World} {b m:Nat} {l:List (Hint×Sl Id)} {n:Int} (h:(star (iRsHI b m l n)).ok w0) (k:Hint) (v:Id) (hn:(idx l k).l.length≤100000) (hn2: -1000000≤n∧n≤1000000):Calls Tryz.prog 136 #[ptr b,Hint.v k,Id.v v] w0 fun e w'=>
  (v∈(idx l k).l∧e= .returned (.bool false)∧Chg N0 w0 w')∨(v∉(idx l k).l∧e= .returned (.bool true)∧∃s':Sl Id,s'.l=(idx l k).l++ [v]∧Mut (star (iRsHI b m l n)) (star (iRsHI b m (mput l k s') (n+1))) w0 w'):=by
 have hI:=idxAt h
 by_cases hv:v∈(idx l k).l
 ·have hp:=Hp.start (S:=N0) w0
  have hhas:∀{w:World},Chg N0 w0 w→Calls Tryz.prog 157 #[ptr b,Hint.v k,Id.v v] w fun e w'=>e= .returned (.bool true)∧Chg N0 w w':=fun hc=>by
   have:=ihasHI ((star (iRsHI b m l n)).keep0 h hc) k v (by omega)
   rwa [decide_eq_true hv] at this
  refine calls_x (args:= [_,_,_]) tabOk Tryz.func136 Tryz.ntmps136 Tryz.results136 rfl (Nat.le_of_ble_eq_true rfl) ?_
  ((conv=>whnf);repeat' ((first|((with_reducible apply br_id);first|with_reducible refine br_t ?_|with_reducible refine br_f ?_)|((with_reducible apply ldn_id);apply lda_hs hp;(focus repeat' constructor);exact rfl)|((with_reducible apply al_id);refine al_cel hp ?_;clear hp;intro bb w hp)|((with_reducible apply cl_id);first|((refine cl_eq ((inoneHI (hp.chg.cell0 hI.c0))) rfl rfl ?_;rintro e w ⟨rfl,hcc⟩;replace hp:=hp.call0 hcc;refine ⟨_,rfl,?_⟩))|((refine cl_eq ((hhas hp.chg)) rfl rfl ?_;rintro e w ⟨rfl,hcc⟩;replace hp:=hp.call0 hcc;refine ⟨_,rfl,?_⟩))))<;>(conv=>whnf)))
  exact ps_val (v':= .bool false) rfl (.inl ⟨hv,rfl,hp.chg⟩)
 ·have hp:=Hp.open h
  have hhas:∀{w:World} {c:List Res},Hp (star (iRsHI b m l n)).dom w0 w (c++iRsHI b m l n)→Calls Tryz.prog 157 #[ptr b,Hint.v k,Id.v v] w fun e w'=>e= .returned (.bool false)∧Chg N0 w w':=fun {w c} hp=>by
   have h1:(star (iRsHI b m l n)).ok w:=(hp.sub (List.sublist_append_right c _)).fold1.get (j:=0) rfl
   have:=ihasHI h1 k v (by omega)
   rwa [decide_eq_false hv] at this
  have hkk:EqIs Tryz.prog 44 (Hint.v k) (Hint.v k) true:=by have:=eq_hint k k;rwa [decide_eq_true rfl] at this
  have hbn:(if BinOp.neq=BinOp.eql then true else !true)=false:=rfl
  refine calls_x (args:= [_,_,_]) tabOk Tryz.func136 Tryz.ntmps136 Tryz.results136 rfl (Nat.le_of_ble_eq_true rfl) ?_
  ((conv=>whnf);repeat' ((first|((with_reducible apply br_id);first|(with_reducible refine br_0 hbn ?_)|with_reducible refine br_f ?_)|((with_reducible apply ldn_id);apply lda_hs hp;(focus repeat' constructor);exact rfl)|((with_reducible apply al_id);refine al_cel hp ?_;clear hp;intro bb w hp)|((with_reducible apply gen_id);(refine gen_eqa rfl rfl rfl hkk (by kernel_rfl) (.inr rfl) ?_))|((with_reducible apply cl_id);first|((refine cl_eq ((inoneHI (cell_of_heap (hp.cel_get (j:=2) rfl) rfl))) rfl rfl ?_;rintro e w ⟨rfl,hcc⟩;replace hp:=hp.call0 hcc;refine ⟨_,rfl,?_⟩))|((refine cl_eq ((hhas (c:= [_,_]) hp)) rfl rfl ?_;rintro e w ⟨rfl,hcc⟩;replace hp:=hp.call0 hcc;refine ⟨_,rfl,?_⟩))))<;>(conv=>whnf)))
  obtain ⟨rest,hp,hperm, -⟩:=idx_out (c:= [_,_]) k hp
  have hl1:=(hp.row (j:=0) rfl).le
  refine dr_autos [1,2,3,4] 13 tabOk (by kernel_rfl) (by decide+kernel) ?_
  replace hp:=hp.drew
  ((conv=>whnf);repeat' ((first|((with_reducible apply ar_id);refine ar_i64 (by omega) ?_)|((with_reducible apply cn_id);first|refine cn rfl ?_|refine cn (Chg.refl _ _) ?_)|((with_reducible apply ld_id);apply ld_hs hp;(focus repeat' constructor);exact rfl)|((with_reducible apply ldn_id);apply lda_hs hp;(focus repeat' constructor);exact rfl)|((with_reducible apply st_id);apply st_hs hp;(focus repeat' constructor);exact rfl;exact rfl;clear hp;intro w hp;(try dsimp only [List.set] at hp))|((with_reducible apply gen_id);first|((refine gen_bs rfl hp el_id Id.c [v] [Id.v v] rfl rfl rfl (fun _ hh=>by simp at hh;subst hh;rfl) (by omega) ?_);clear hp;intro br w hp)|((refine gen_app (s:=idx l k) rfl hp 1 rfl el_id rfl ⟨some ⟨br,0,none⟩,1, [v]⟩ rfl (hp.row (j:=0) rfl) (fun _ _=>rfl) idL_one (by simp only [List.length_cons,List.length_nil];omega) (by simp only [maxLen,List.length_cons,List.length_nil];omega) ?_);clear hp;intro A2 c2 w hp;dsimp only [List.set] at hp)|((refine gen_put rfl hp 5 rfl rfl hintK Tryz.underlying253 k rfl (⟨A2,c2,(idx l k).l++ [v]⟩:Sl Id) rfl ?_);clear hp;intro w hp;dsimp only [List.set] at hp))|((with_reducible apply fk_id);refine fk_mk ?_ ?_)|((with_reducible apply rd_id);(refine rd_look rfl hp 4 rfl rfl hintK Tryz.underlying253 (z:=Sl.nil) rfl k rfl ?_)))<;>(conv=>whnf)))
  all_goals
   have hp3:=idx_back (l':=mput l k ⟨A2,c2,(idx l k).l++ [v]⟩) (c:= [_,_]) hp.tail (hperm ⟨A2,c2,(idx l k).l++ [v]⟩)
   exact ps_val (v':= .bool true) rfl (.inr ⟨hv,rfl,⟨A2,c2,(idx l k).l++ [v]⟩,rfl,hp3.shut (List.sublist_append_right _ _)⟩)
section
variable {α : Type} {P : Program} {S : Nat → Prop} {w0 w w' : World} {rs : List Res} {enc : α → List Value} {e t : TypeId} {sz bytes B j : Nat} {s s2 : Sl α} {ρ : Operand → Value} {o : Oper} {g : Value → World → Prop}
theorem SlAt.flat (h2:SlAt B w enc sz s2) (hl:∀x∈s2.l,(enc x).length=sz) (hsz:0 < sz) {ad:Addr} (hA:s2.A=some ad):∀j u,(s2.l.flatMap enc)[j]? =some u→w.cell? (ad.add j)=some u:=fun j u hj=>by
 have hne:s2.l≠ []:=fun e=>by rw [e] at hj;simp at hj
 obtain ⟨b,o,h3,_,h4⟩:=h2.row hne
 rw [hA] at h3
 cases h3
 rw [add_plain]
 have hjl:=(List.getElem?_eq_some_iff.1 hj).1
 rw [flat_len hl] at hjl
 have hq:j / sz < s2.l.length:=Nat.div_lt_of_lt_mul (by rw [Nat.mul_comm];exact hjl)
 have hx:=List.getElem?_eq_getElem hq
 have hlx:=hl _ (List.getElem_mem hq)
 have hr:j % sz < (enc s2.l[j / sz]).length:=by rw [hlx];exact Nat.mod_lt _ hsz
 have h5:=flat_at hl _ _ hx _ _ (List.getElem?_eq_getElem hr)
 have e1:j / sz*sz+j % sz=j:=Nat.div_add_mod' j sz
 rw [e1,hj] at h5
 cases h5
 have h6:=h4 _ _ hx _ _ (List.getElem?_eq_getElem hr)
 rwa [Nat.add_assoc,e1] at h6
end
section
variable {α : Type} {P : Program} {S : Nat → Prop} {w0 w w' : World} {rs : List Res} {enc : α → List Value} {e t : TypeId} {sz bytes B j : Nat} {s s2 : Sl α} {ρ : Operand → Value} {o : Oper}
def CutOk (e:TypeId) (sz:Nat) (enc:α→List Value) (s:Sl α) (w:World):Prop:=∃b cur fz,s.A=some ⟨b,0,none⟩∧w.heap[b]? =some (.cells cur e fz)∧(∀x∈s.l,(enc x).length=sz)∧s.c=s.l.length∧s.l.length≤maxLen∧cur.toList.take (s.l.length*sz)=s.l.flatMap enc
def cutR (e:TypeId) (sz:Nat) (enc:α→List Value) (s:Sl α):Res where
 dom b:=s.v.ownBlock=some b
 ok w:=(rowR e sz enc s).ok w∨CutOk e sz enc s w
 lt w h b hb:=by
  rcases h with h|⟨g,cur,fz,h1,h2,_⟩
  ·exact (rowR e sz enc s).lt w h b (rowR_dom.2 hb)
  ·rw [Sl.v,h1] at hb
   cases hb
   exact heap_lt h2
 loc w w' h hk:=by
  rcases hk with hk|⟨g,cur,fz,h1,h2,h3⟩
  ·exact .inl ((rowR e sz enc s).loc w w' (fun b hb=>h b (rowR_dom.1 hb)) hk)
  ·exact .inr ⟨g,cur,fz,h1,(h g (by rw [Sl.v,h1];rfl)).trans h2,h3⟩
theorem cutOk_at (h:CutOk e sz enc s w):SlAt w.heap.size w enc sz s:=by
 obtain ⟨b,cur,fz,h1,h2,h3,h4,h5,h6⟩:=h
 refine ⟨by omega,by omega,(fun hA=>by rw [h1] at hA;cases hA),fun _=>⟨b,0,h1,heap_lt h2,fun i x hi q v hq=>?_⟩⟩
 have h7:=flat_at h3 i x hi q v hq
 rw [←h6] at h7
 have hlt:i*sz+q < s.l.length*sz:=by
  have:=(List.getElem?_eq_some_iff.1 h7).1
  rw [List.length_take] at this
  omega
 rw [List.getElem?_take_of_lt hlt] at h7
 refine cell_of_heap h2 ?_
 rw [Nat.zero_add]
 simpa using h7
theorem cutR_at (h:(cutR e sz enc s).ok w):SlAt w.heap.size w enc sz s:=h.elim rowR_at cutOk_at
theorem Hp.cutAt (h:Hp S w0 w rs) (hj:rs[j]? =some (cutR e sz enc s)):SlAt w.heap.size w enc sz s:=cutR_at (h.get hj)
theorem Hp.toCut (h:Hp S w0 w rs) (hj:rs[j]? =some (rowR e sz enc s)):Hp S w0 w (rs.set j (cutR e sz enc s)):=h.mut hj (Chg.refl _ _) (.inl (h.get hj)) fun _ hb=>.inl (rowR_dom.2 hb)
theorem Hp.toRow (h:Hp S w0 w rs) (hj:rs[j]? =some (cutR e sz enc s)) (hr:(rowR e sz enc s).ok w):Hp S w0 w (rs.set j (rowR e sz enc s)):=h.mut hj (Chg.refl _ _) hr fun _ hb=>.inl (rowR_dom.1 hb)
theorem run_appc (hE:ElT P t e sz bytes) (ty:TypeId) {b1 o1:Nat} (hA1:s.A=some ⟨b1,o1,none⟩) (h1:SlAt B w enc sz s) (h2:SlAt B w enc sz s2) (hl1:∀x∈s.l,(enc x).length=sz) (hl2:∀x∈s2.l,(enc x).length=sz) (hn2:s2.l≠ []) (hc:s.c=s.l.length) (hb:(s.l.length+s2.l.length)*bytes≤140737488355328) (hn:s.l.length+s2.l.length≤maxLen):
  ∃A' c' w',(Builtin.append_ #[t,t] ty #[s.v,s2.v]).run P w= .ok (.slice A' (s.l++s2.l).length c') w'∧(rowR e sz enc ⟨A',c',s.l++s2.l⟩).ok w'∧Chg N0 w w'∧(∀b,(Sl.v (α:=α) ⟨A',c',s.l++s2.l⟩).ownBlock=some b→w.heap.size≤b):=by
 obtain ⟨ht,i,z,hi,hz,hs,hby,hzs,hsz⟩:=hE
 subst hs hby
 obtain ⟨b2,o2,hA2,_,_⟩:=h2.row hn2
 have hp2:0 < s2.l.length:=List.length_pos_iff.2 hn2
 have hsmall:s.l.length+s2.l.length≤9223372036854775807:=by simp only [maxLen] at hn;omega
 have hr:=run_append_grow (P:=P) w t ty e i z ht hi hz ⟨b1,o1,none⟩ s.l.length s.c (s.l.flatMap enc) (flat_len hl1) (h1.flat hl1 hsz hA1) ⟨b2,o2,none⟩ s2.l.length s2.c (s2.l.flatMap enc) (flat_len hl2) (h2.flat hl2 hsz hA2) (by omega) (by omega) (growslice_fits (by omega) hb)
 have hge:=grownCap_ge w (s.l.length+s2.l.length) s.c e
 have hcm:=grownCap_le_maxLen w (s.l.length+s2.l.length) s.c e hn
 have e1:s.v= .slice (some ⟨b1,o1,none⟩) s.l.length s.c:=by rw [Sl.v,hA1]
 have e2:s2.v= .slice (some ⟨b2,o2,none⟩) s2.l.length s2.c:=by rw [Sl.v,hA2]
 have e3:(s.l++s2.l).flatMap enc=s.l.flatMap enc++s2.l.flatMap enc:=List.flatMap_append
 have hfl:(s.l.flatMap enc++s2.l.flatMap enc).length=(s.l.length+s2.l.length)*i.size:=by rw [List.length_append,flat_len hl1,flat_len hl2,Nat.add_mul]
 rw [e1,e2]
 refine ⟨some ⟨w.heap.size,0,none⟩,grownCap w (s.l.length+s2.l.length) s.c e,_,by rw [List.length_append];exact hr,rowR_ok.2 ⟨⟨?_, .inr ⟨w.heap.size,grownCap w (s.l.length+s2.l.length) s.c e,_,rfl,Nat.zero_le _,heap_alloc_new w.drew _,by rw [List.length_append];exact hge,hcm,?_,?_⟩⟩,fun x hx=>?_⟩,((Chg.refl _ _).drew).alloc _,fun b hb=>?_⟩
 ·rw [e3,hfl,List.length_append]
 ·simp only [Array.size_append,List.size_toArray,size_zeroCells,hzs,flat_len hl1,flat_len hl2,←Nat.add_mul]
  congr 1
  omega
 ·rw [e3,List.length_append]
  simp only [Array.toList_append,List.append_assoc]
  rw [←List.append_assoc,←hfl]
  exact List.take_left
 ·rcases List.mem_append.1 hx with hx|hx
  ·exact hl1 x hx
  ·exact hl2 x hx
 ·simp only [Sl.v,Value.ownBlock,Option.some.injEq] at hb
  omega
theorem gen_appc {g:Value→World→Prop} {x y:Operand} (hop:o.op= .call {callee:= .builtin .append,args:= #[x,y],argTypes:= #[t,t]}) (h:Hp S w0 w rs) (hj:rs[j]? =some (cutR e sz enc s)) (hE:ElT P t e sz bytes) (hx:ρ x=s.v) (s2:Sl α) (hy:ρ y=s2.v) (h2:SlAt w.heap.size w enc sz s2) (hl2:∀x∈s2.l,(enc x).length=sz) (h1:∀x∈s2.l,∀v∈enc x,v.oneCell'=true) (hn2:s2.l≠ [])
  (hb:(s.l.length+s2.l.length)*bytes≤140737488355328) (hn:s.l.length+s2.l.length≤maxLen)
  (hk:∀A' c' w',Hp S w0 w' (rs.set j (cutR e sz enc ⟨A',c',s.l++s2.l⟩))→g (.slice A' (s.l++s2.l).length c') w'):Gen P ρ o w g:=by
 have hjl:=(List.getElem?_eq_some_iff.1 hj).1
 rcases h.get hj with hr|hc
 ·have hp:=h.toRow hj hr
  refine gen_app hop hp j (by rw [List.getElem?_set_self hjl]) hE hx s2 hy h2 hl2 h1 hb hn fun A' c' w' hp2=>hk A' c' w' ?_
  have hp3:=hp2.toCut (j:=j) (by rw [List.set_set,List.getElem?_set_self hjl])
  rwa [List.set_set,List.set_set] at hp3
 ·have hat:=cutOk_at hc
  obtain ⟨b,cur,fz,hA, -,hl1,hcc, -, -⟩:=hc
  obtain ⟨A',c',w',hrun,h3,h4,h5⟩:=run_appc hE o.type hA hat h2 hl1 hl2 hn2 hcc hb hn
  exact gen_v (by simp only [execOp,hop,resolve,invoke,builtin,Sem.run_bind,Sem.run_pure,Result.andThen_ok,List.map_toArray,List.map_cons,List.map_nil,hx,hy,hrun]) (hk A' c' w' (h.mut hj h4.of0 (.inl h3) fun b hb=>.inr (h5 b hb)))
end
theorem inotIP {w0:World} {b m:Nat} {l:List (Id×Sl Plc)} {n:Int} (h:(star (iRsIP b m l n)).ok w0) (k:Id) (v:Plc) (hn:(idx l k).l.length≤100000) (hn2: -1000000≤n∧n≤1000000):Calls Tryz.prog 135 #[ptr b,Id.v k,Plc.v v] w0 fun e w'=>
  ∃q,e= .returned (.bool q)∧∃l' n',n≤n'∧n'≤n+1∧(∀x,(idx l' x).l=if x=k∧v∉(idx l k).l then (idx l k).l++ [v] else (idx l x).l)∧Mut (star (iRsIP b m l n)) (star (iRsIP b m l' n')) w0 w':=by
 refine (inoteIP h k v hn hn2).mono fun e w' hh=>?_
 rcases hh with ⟨hv,rfl,hc⟩|⟨hv,rfl,s',hs',hm⟩
 ·exact ⟨_,rfl,l,n,by omega,by omega,fun x=>by rw [if_neg fun hh=>hh.2 hv],Mut.of0 h hc⟩
 ·refine ⟨_,rfl,mput l k s',n+1,by omega,by omega,fun x=>?_,hm⟩
  rw [idx_mput]
  by_cases hx:x=k
  ·rw [if_pos hx,if_pos ⟨hx,hv⟩];exact hs'
  ·rw [if_neg hx,if_neg fun hh=>hx hh.1]
theorem inotHI {w0:World} {b m:Nat} {l:List (Hint×Sl Id)} {n:Int} (h:(star (iRsHI b m l n)).ok w0) (k:Hint) (v:Id) (hn:(idx l k).l.length≤100000) (hn2: -1000000≤n∧n≤1000000):Calls Tryz.prog 136 #[ptr b,Hint.v k,Id.v v] w0 fun e w'=>
  ∃q,e= .returned (.bool q)∧∃l' n',n≤n'∧n'≤n+1∧(∀x,(idx l' x).l=if x=k∧v∉(idx l k).l then (idx l k).l++ [v] else (idx l x).l)∧Mut (star (iRsHI b m l n)) (star (iRsHI b m l' n')) w0 w':=by
 refine (inoteHI h k v hn hn2).mono fun e w' hh=>?_
 rcases hh with ⟨hv,rfl,hc⟩|⟨hv,rfl,s',hs',hm⟩
 ·exact ⟨_,rfl,l,n,by omega,by omega,fun x=>by rw [if_neg fun hh=>hh.2 hv],Mut.of0 h hc⟩
 ·refine ⟨_,rfl,mput l k s',n+1,by omega,by omega,fun x=>?_,hm⟩
  rw [idx_mput]
  by_cases hx:x=k
  ·rw [if_pos hx,if_pos ⟨hx,hv⟩];exact hs'
  ·rw [if_neg hx,if_neg fun hh=>hx hh.1]
abbrev snRs (b:Nat) (X:Snx):List Res:= [cel b 206 X.c.toArray,cutR 51 65 Blk.c X.bs,star (iRsIP X.bw X.mw X.lw X.nw),star (iRsHI X.bh X.mh X.lh X.nh)]
theorem snAt {S:Nat→Prop} {w0 w:World} {rs:List Res} {b:Nat} {X:Snx} (h:Hp S w0 w rs) (hs:(snRs b X).Sublist rs):SnAt w b X:=by
 have h2:=h.sub hs
 exact ⟨h2.cel_get (j:=0) rfl,idxAt (h2.get (j:=2) rfl),idxAt (h2.get (j:=3) rfl),h2.cutAt (j:=1) rfl⟩
theorem not_take {α:Type} {l:List α} {i:Nat} {x:α} (hd:l.Nodup) (hx:l[i]? =some x):x∉l.take i:=fun hm=>by
 have h1:l=l.take i++l.drop i:=(List.take_append_drop i l).symm
 rw [h1] at hd
 have h2:=(List.nodup_append.1 hd).2.2 x hm
 have h3:x∈l.drop i:=by
  refine List.mem_of_getElem? (i:=0) ?_
  rw [List.getElem?_drop]
  exact hx
 exact h2 x h3 rfl
theorem mem_take1 {α:Type} {l:List α} {i:Nat} {x y:α} (hx:l[i]? =some x):y∈l.take (i+1)↔y∈l.take i∨y=x:=by
 rw [List.take_add_one,hx]
 simp
theorem idxOf_nd {α:Type} [BEq α] [LawfulBEq α] {x:α} {l:List α} {i:Nat} (hd:l.Nodup) (hx:l[i]? =some x):l.idxOf x=i:=idxOf_at hx fun y hy e=>not_take hd hx (e▸hy)
theorem el_blkS:ElT Tryz.prog 26 51 65 88:=elt_of (z:=Blk.v ⟨Id.z,Id.z,Sl.nil⟩) Tryz.underlying26 (by kernel_rfl) rfl (by omega)
theorem blk_oneS {l:List Blk}:∀x∈l,∀u∈Blk.c x,u.oneCell'=true:=fun x _ u hu=>by
 have h1:Blk.c x=x.hash.c++(x.parent.c++ [x.tx.v]):=rfl
 rw [h1] at hu
 rcases List.mem_append.1 hu with hu|hu
 ·exact idL_one (l:= [x.hash]) x.hash (by simp) u hu
 rcases List.mem_append.1 hu with hu|hu
 ·exact idL_one (l:= [x.parent]) x.parent (by simp) u hu
 ·simp at hu;subst hu;rfl
structure Chn where
 depth:Int
 ht:UInt32
 win:Sl Blk
abbrev Chn.c (C:Chn):List Value:= [i64 C.depth,u32 C.ht,C.win.v]
def Chn.low (C:Chn):Nat:=C.ht.toNat+1 - C.win.l.length
structure ChAt (w:World) (b:Nat) (C:Chn):Prop where
 cel:w.heap[b]? =some (.cells C.c.toArray 196)
 win:RAt w.heap.size w C.win
 dep:1≤C.depth∧C.depth≤16
 len:(C.win.l.length:Int)≤C.depth+1
 le:C.win.l.length≤C.ht.toNat
 nd:∀c∈C.win.l,c.tx.l.Nodup∧c.tx.l.length≤32
section
variable {w0 : World} {b : Nat} {C : Chn}
theorem ChAt.keep0 {w:World} (h:ChAt w0 b C) (hc:Chg N0 w0 w):ChAt w b C:=
 ⟨hc.heap h.cel fun hh=>hh,⟨(h.win.row.keep hc fun _ hh=>hh.elim).more hc.size,fun c hm=>((h.win.tx c hm).keep hc fun _ hh=>hh.elim).more hc.size⟩,h.dep,h.len,h.le,h.nd⟩
theorem ChAt.cell (h:ChAt w0 b C) {i:Nat} {v:Value} (hi:C.c[i]? =some v):w0.cell? ⟨b,i,none⟩=some v:=cell_of_heap h.cel (by simpa using hi)
theorem cnone_any (h:ChAt w0 b C):Calls Tryz.prog 138 #[ptr b] w0 fun e w'=>e= .returned (.bool false)∧Chg N0 w0 w':=by
 have hp:=Hp.start (S:=N0) w0
 have hd:=h.dep
 refine calls_x (args:= [_]) tabOk Tryz.func138 Tryz.ntmps138 Tryz.results138 rfl (Nat.le_of_ble_eq_true rfl) ?_
 have hd2:(C.depth==0)=false:=by simp;omega
 ((conv=>whnf);repeat' ((first|((with_reducible apply br_id);with_reducible refine br_f ?_)|((with_reducible apply ld_id);(refine ld_of ((h.keep0 hp.chg).cell rfl) ?_)))<;>(conv=>whnf)))
 all_goals exact ps_val (v':= .bool (C.depth==0)) rfl ⟨by rw [hd2],hp.chg⟩
theorem cat_any (h:ChAt w0 b C) {i:Nat} (hi:i < C.win.l.length):Calls Tryz.prog 139 #[ptr b,i64 i] w0 fun e w'=>e= .returned (u32 (UInt32.ofNat (C.low+i)))∧Chg N0 w0 w':=by
 have hp:=Hp.start (S:=N0) w0
 have us:=Tryz.underlying26
 have hle:=h.le
 have hlt:=C.ht.toNat_lt
 have hd:=h.dep
 have hln:=h.len
 obtain ⟨k,hk⟩:∃k,k=C.low+i:=⟨_,rfl⟩
 have hk2:(C.ht.toNat:Int) - ((C.win.l.length:Int) - 1 - i)=k:=by
  rw [hk];unfold Chn.low;omega
 have hk3:(UInt32.ofNat k).toNat=k:=UInt32.toNat_ofNat_of_lt' (by show _ < 4294967296;omega)
 rw [←hk]
 refine calls_x (args:= [_,_]) tabOk Tryz.func139 Tryz.ntmps139 Tryz.results139 rfl (Nat.le_of_ble_eq_true rfl) ?_
 ((conv=>whnf))
 refine dr_autos [] 1000 tabOk (by kernel_rfl) (by decide+kernel) ?_
 replace hp:=hp.drew
 ((conv=>whnf);repeat' ((first|((with_reducible apply ar_id);first|refine ar_i64 (by omega) ?_|refine ar_u32 (by omega) ?_)|((with_reducible apply ld_id);(refine ld_of ((h.keep0 hp.chg).cell rfl) ?_))|((with_reducible apply rd_id);first|(refine rd_conv tabOk rfl rfl rfl rfl ?_)|(apply rd_len;exact rfl;exact rfl;assumption)))<;>(conv=>whnf)))
 all_goals exact ps_val (v':= .int .u32 ((C.ht.toNat:Int) - ((C.win.l.length:Int) - 1 - i))) rfl ⟨by rw [hk2];show _=Ending.returned (.int .u32 ((UInt32.ofNat k).toNat:Int));rw [hk3],hp.chg⟩
theorem clow_any (h:ChAt w0 b C):Calls Tryz.prog 105 #[ptr b] w0 fun e w'=>e= .returned (u32 (if C.win.l= [] then 0 else UInt32.ofNat C.low))∧Chg N0 w0 w':=by
 have hp:=Hp.start (S:=N0) w0
 have us:=Tryz.underlying26
 by_cases h0:C.win.l= []
 ·have hl:C.win.l.length=0:=by rw [h0];rfl
  rw [if_pos h0]
  refine calls_x (args:= [_]) tabOk Tryz.func105 Tryz.ntmps105 Tryz.results105 rfl (Nat.le_of_ble_eq_true rfl) ?_
  ((conv=>whnf);repeat' ((first|((with_reducible apply br_id);first|with_reducible refine br_f ?_|((with_reducible refine br_eq (fun hx=>?_) (fun hx=>?_))<;>(try (exfalso;first|omega|contradiction))))|((with_reducible apply ld_id);(refine ld_of ((h.keep0 hp.chg).cell rfl) ?_))|((with_reducible apply gen_id);apply gen_len;exact rfl;exact rfl;assumption)|((with_reducible apply cl_id);(refine cl_eq ((cnone_any (h.keep0 hp.chg))) rfl rfl ?_;rintro e w ⟨rfl,hcc⟩;replace hp:=hp.call0 hcc;refine ⟨_,rfl,?_⟩)))<;>(conv=>whnf)))
  exact ps_val (v':=u32 0) rfl ⟨rfl,hp.chg⟩
 ·have hl:0 < C.win.l.length:=List.length_pos_iff.2 h0
  rw [if_neg h0]
  have hca:=fun {w:World} (hc:Chg N0 w0 w)=>cat_any (h.keep0 hc) hl
  rw [Nat.add_zero] at hca
  refine calls_x (args:= [_]) tabOk Tryz.func105 Tryz.ntmps105 Tryz.results105 rfl (Nat.le_of_ble_eq_true rfl) ?_
  ((conv=>whnf);repeat' ((first|((with_reducible apply br_id);first|with_reducible refine br_f ?_|((with_reducible refine br_eq (fun hx=>?_) (fun hx=>?_))<;>(try (exfalso;first|omega|contradiction))))|((with_reducible apply ld_id);(refine ld_of ((h.keep0 hp.chg).cell rfl) ?_))|((with_reducible apply gen_id);apply gen_len;exact rfl;exact rfl;assumption)|((with_reducible apply cl_id);first|((refine cl_eq ((cnone_any (h.keep0 hp.chg))) rfl rfl ?_;rintro e w ⟨rfl,hcc⟩;replace hp:=hp.call0 hcc;refine ⟨_,rfl,?_⟩))|((refine cl_eq ((hca hp.chg)) rfl rfl ?_;rintro e w ⟨rfl,hcc⟩;replace hp:=hp.call0 hcc;refine ⟨_,rfl,?_⟩))))<;>(conv=>whnf)))
  exact ps_val (v':=u32 (UInt32.ofNat C.low)) rfl ⟨rfl,hp.chg⟩
theorem bchild_any (w0:World) (p x:Blk):Calls Tryz.prog 153 #[p.v,x.v] w0 fun e w'=>e= .returned (.bool (decide (x.parent=p.hash)))∧Chg N0 w0 w':=by
 have hp:=Hp.start (S:=N0) w0
 refine calls_x (args:= [_,_]) tabOk Tryz.func153 Tryz.ntmps153 Tryz.results153 rfl (Nat.le_of_ble_eq_true rfl) ?_
 ((conv=>whnf);repeat' ((first|((with_reducible apply ldn_id);apply ldn_hs hp;(focus repeat' constructor);exact rfl;exact rfl)|((with_reducible apply al_id);refine al_cel hp ?_;clear hp;intro bb w hp)|((with_reducible apply gen_id);(refine gen_eqa rfl rfl rfl (eq_id x.parent p.hash) (by kernel_rfl) (.inl rfl) ?_)))<;>(conv=>whnf)))
 exact ps_val (v':= .bool (decide (x.parent=p.hash))) rfl ⟨rfl,hp.chg⟩
end
end Go.Proofs.YtpbapnlnheahnaaGreatDoor
