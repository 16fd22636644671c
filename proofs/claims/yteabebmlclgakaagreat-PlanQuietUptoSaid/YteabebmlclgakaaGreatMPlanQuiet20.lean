/- MPlanQuiet20: HintIP, HintHI, Seen0, SixPlc, HintIP2, HintIP3, SixId. -/
import Derived.Test.YteabebmlclgakaaGreatMPlanQuiet14
import Derived.Test.YteabebmlclgakaaGreatMPlanQuiet19
import Derived.Test.YteabebmlclgakaaGreatMPlanQuiet7
set_option linter.unusedSimpArgs false
set_option linter.unusedVariables false
/- HintIP: an index of the package hints: api.Id to seen.place. -/
namespace Go.Proofs.YteabebmlclgakaaGreat
open Go.RowKit
set_option maxRecDepth 100000
set_option maxHeartbeats 2000000
abbrev iRsIP (b m:Nat) (l:List (Id×Sl Plc)) (n:Int):List Res:=idxRs 256 164 2 Id.v Plc.c b m l n
theorem inoneIP {w0:World} {b m:Nat} (hc:w0.cell? ⟨b,0,none⟩=some (.map (some m))):Calls Tryz.prog 185 #[ptr b] w0 fun e w'=>e= .returned (.bool false)∧Chg N0 w0 w':=by
 have hp:=Hp.start (S:=N0) w0
 refine calls_x (args:= [_]) tabOk Tryz.func185 Tryz.ntmps185 Tryz.results185 rfl (Nat.le_of_ble_eq_true rfl) ?_
 ((conv=>whnf);repeat' ((first|((with_reducible refine br_id ?_);(with_reducible refine br_f ?_))|((with_reducible refine ld_id ?_);((refine ld_of (hp.chg.cell0 hc) ?_))))<;>(conv=>whnf)))
 exact ps_val (v':= .bool false) rfl ⟨rfl,hp.chg⟩
theorem inewIP {w0:World}:Calls Tryz.prog 106 #[] w0 fun e w'=>∃b m,e= .returned (ptr b)∧Made (star (iRsIP b m [] 0)) w0 w':=by
 have hp:=Hp.start (S:=N0) w0
 refine calls_x (args:= []) tabOk Tryz.func106 Tryz.ntmps106 Tryz.results106 rfl (Nat.le_of_ble_eq_true rfl) ?_
 ((conv=>whnf);repeat' ((first|((with_reducible refine al_id ?_);(refine al_cel hp ?_;clear hp;intro bb w hp))|((with_reducible refine gen_id ?_);first|((refine gen_mmake rfl Id.v (Sl.v (α:=Plc)) hp ?_);clear hp;intro bb w hp)|(apply gen_build;exact rfl;exact rfl)))<;>(conv=>whnf)))
 exact ps_of ⟨_,_,rfl,hp.made (.refl _)⟩
theorem iatIP {w0:World} {b m:Nat} {l:List (Id×Sl Plc)} {n:Int} (h:IdxAt Id.v Plc.c 2 w0 b m l n) (k:Id) (hn:(idx l k).l.length≤1000000):Calls Tryz.prog 243 #[ptr b,Id.v k] w0 fun e w'=>∃r:Sl Plc,r.l=(idx l k).l∧e= .returned r.v∧Made (rowR 164 2 Plc.c r) w0 w':=by
 have hp:=Hp.start (S:=N0) w0
 have hB:∀b,N0 b→w0.heap.size≤b:=fun _ hh=>hh.elim
 have hsa:=h.idx k
 obtain ⟨s,hs⟩:∃s,idx l k=s:=⟨_,rfl⟩
 rw [hs] at hn hsa ⊢
 refine calls_x (args:= [_,_]) tabOk Tryz.func243 Tryz.ntmps243 Tryz.results243 rfl (Nat.le_of_ble_eq_true rfl) ?_
 ((conv=>whnf);repeat' ((first|((with_reducible refine br_id ?_);(with_reducible refine br_f ?_))|((with_reducible refine ld_id ?_);((refine ld_of (hp.chg.cell0 h.c0) ?_)))|((with_reducible refine ldn_id ?_);(apply lda_hs hp;(focus repeat' constructor);exact rfl))|((with_reducible refine al_id ?_);(refine al_cel hp ?_;clear hp;intro bb w hp))|((with_reducible refine gen_id ?_);((refine gen_app0 rfl hp el_plc rfl s rfl (hsa.keep hp.chg hB) (fun _ _=>rfl) plc_one (by omega) (by simp only [maxLen];omega) ?_);clear hp;intro A1 c1 w hcc hp))|((with_reducible refine dr_id ?_);(refine dr_auto tabOk (by kernel_rfl) (by decide+kernel) ?_;(try replace hp:=hp.drew)))|((with_reducible refine cl_id ?_);((refine cl_eq ((inoneIP (hp.chg.cell0 h.c0))) rfl rfl ?_;rintro e w ⟨rfl,hcc⟩;replace hp:=hp.call0 hcc;refine ⟨_,rfl,?_⟩)))|((with_reducible refine rd_id ?_);((refine rd_lookM rfl (h.map.keep0 hp.chg) rfl idK Tryz.underlying254 (z:=Sl.nil) rfl k rfl hs ?_))))<;>(conv=>whnf)))
 exact ps_val (v':= .slice A1 s.l.length c1) rfl ⟨⟨A1,c1,s.l⟩,rfl,rfl,hp.made1 (j:=0) rfl⟩
theorem ieachIP {w0:World} (b:Nat) (k:Id):Calls Tryz.prog 218 #[ptr b,Id.v k] w0 fun e w'=>∃b2 b3,e= .returned (.func (.func 242) #[] #[ptr b2,ptr b3])∧Made (star [cel b3 44 (Id.c k).toArray,cel b2 161 #[ptr b]]) w0 w':=by
 have hp:=Hp.start (S:=N0) w0
 refine calls_x (args:= [_,_]) tabOk Tryz.func218 Tryz.ntmps218 Tryz.results218 rfl (Nat.le_of_ble_eq_true rfl) ?_
 ((conv=>whnf);repeat' ((first|((with_reducible refine al_id ?_);(refine al_cel hp ?_;clear hp;intro bb w hp))|((with_reducible refine gen_id ?_);((refine gen_mkf rfl rfl ?_))))<;>(conv=>whnf)))
 exact ps_of ⟨_,_,rfl,hp.made (.refl _)⟩
abbrev iEachIP (b b2 b3:Nat) (k:Id):List Res:= [cel b3 44 (Id.c k).toArray,cel b2 161 #[ptr b]]
theorem iiterIP {w0:World} {b m b2 b3:Nat} {l:List (Id×Sl Plc)} {n:Int} {k:Id} (h:(star (iRsIP b m l n)).ok w0) (h3:(cel b3 44 (Id.c k).toArray).ok w0) (h2:(cel b2 161 #[ptr b]).ok w0) (hn:(idx l k).l.length≤1000000):
  Iter Tryz.prog (fun x=>(∃r∈iEachIP b b2 b3 k,r.dom x)∨(star (iRsIP b m l n)).dom x) 242 #[ptr b2,ptr b3] (fun v:Plc=> #[Plc.v v]) (idx l k).l w0:=by
 refine ⟨fun L R X r0 hR0 hR hdis hy=>?_⟩
 have hp:=Hp.start1 hR
 have hx2:¬r0.dom b2:=fun hh=>hdis _ hh (.inl ⟨_,List.mem_cons_of_mem _ (List.mem_cons_self ..),cel_dom.2 rfl⟩)
 have hx3:¬r0.dom b3:=fun hh=>hdis _ hh (.inl ⟨_,List.mem_cons_self ..,cel_dom.2 rfl⟩)
 have hxi:∀x,(star (iRsIP b m l n)).dom x→¬r0.dom x:=fun x hx hh=>hdis _ hh (.inr hx)
 obtain ⟨xs,hxs⟩:∃xs,(idx l k).l=xs:=⟨_,rfl⟩
 have hsat:=fun {w:World} (hc:Chg r0.dom w0 w)=>iatIP (idxAt ((star (iRsIP b m l n)).keep h hc hxi)) k hn
 rw [hxs] at hy hsat ⊢
 show Calls _ _ #[.func (.yield L) #[] #[],ptr b2,ptr b3] w0 _
 have us:=Tryz.underlying267
 refine calls_x (args:= [_,_,_]) tabOk Tryz.func242 Tryz.ntmps242 Tryz.results242 rfl (Nat.le_of_ble_eq_true rfl) ?_
 ((conv=>whnf);repeat' ((first|((with_reducible refine ld_id ?_);((refine ld_of (hp.chg.cell (cell_of_heap (cel_ok.1 h2) rfl) hx2) ?_)))|((with_reducible refine ldn_id ?_);((refine ldn_heap (hp.chg.heap (cel_ok.1 h3) hx3) rfl ?_))))<;>(conv=>whnf)))
 refine cl_eq (hsat hp.chg) rfl rfl ?_
 rintro e w ⟨r,hr,rfl,hm⟩
 replace hp:=hp.add hm
 clear hm
 refine ⟨_,rfl,?_⟩
 subst hr
 have hmax:r.l.length≤9223372036854775807:=by have:=(hp.row (j:=0) rfl).le;have:=(hp.row (j:=0) rfl).max;simp only [maxLen] at this;omega
 ((conv=>whnf);repeat' (((with_reducible refine gen_id ?_);(apply gen_len;exact rfl;exact rfl;assumption))<;>(conv=>whnf)))
 refine lp_inv (α:=Nat) (fun i=> [(0, .func (.yield L) #[] #[]),(8,r.v),(9,i64 r.l.length),(10,i64 i)]) (fun i w=>i≤r.l.length∧∃q,R i q∧Hp r0.dom w0 w [rowR 164 2 Plc.c r,q]) (fun i=>r.l.length - i) 0 (by (repeat' (first|exact trivial|(refine ⟨rfl,?_⟩)))) ⟨by omega,r0,hR0,hp⟩ ?_
 clear hp
 rintro i e0 w ⟨hi,q,hq,hp⟩
 dsimp only at hi hp ⊢
 rcases Nat.lt_or_ge i r.l.length with hlt|hge
 ·obtain ⟨bb,oo,y,hA,hbb,hrow,hyy⟩:=(hp.row (j:=0) rfl).has hlt
  ((conv=>whnf);repeat' ((first|((with_reducible refine br_id ?_);((with_reducible refine br_dec (fun hx=>?_) (fun hx=>?_))<;>(try (exfalso;first|omega|contradiction))))|((with_reducible refine cn_id ?_);(refine cn rfl ?_))|((with_reducible refine ldn_id ?_);first|((refine ldn_ownx hp 0 rfl ‹_› _ rfl ‹_› rfl ?_))|(apply lda_hs hp;(focus repeat' constructor);exact rfl))|((with_reducible refine al_id ?_);(refine al_cel hp ?_;clear hp;intro bb w hp))|((with_reducible refine st_id ?_);(apply sta_hs hp;(focus repeat' constructor);exact rfl;exact rfl;clear hp;intro w hp;(try dsimp only [List.set] at hp)))|((with_reducible refine gen_id ?_);((refine gen_ixs rfl rfl ‹_› rfl rfl (by omega) ?_))))<;>(conv=>whnf)))
  refine yl_of (hy i y w q hq hyy (hp.shut1 (j:=2) rfl)) rfl ?_
  rintro e w (⟨rfl,q',hq',hm⟩|⟨rfl,q',hq',hm⟩)
  ·replace hp:=hp.via (j:=2) rfl hm
   dsimp only [List.set] at hp
   refine ⟨_,rfl,?_⟩
   ((conv=>whnf);repeat' ((first|((with_reducible refine br_id ?_);first|(with_reducible refine br_t ?_)|(with_reducible refine br_not ?_))|((with_reducible refine ar_id ?_);(refine ar_i64 (by omega) ?_)))<;>(conv=>whnf)))
   exact lp_next (i+1) (by show r.l.length - (i+1) < r.l.length - i;omega) (by (repeat' (first|exact trivial|(refine ⟨rfl,?_⟩)))) ⟨by show i+1≤_;omega,q',hq',hp.tail⟩
  ·replace hp:=hp.via (j:=2) rfl hm
   dsimp only [List.set] at hp
   refine ⟨_,rfl,?_⟩
   ((conv=>whnf);repeat' (((with_reducible refine br_id ?_);first|(with_reducible refine br_f ?_)|(with_reducible refine br_not ?_))<;>(conv=>whnf)))
   exact ps_of ⟨⟨_,rfl⟩, .inr ⟨i,q',hlt,hq',hp.shut1 (j:=2) rfl⟩⟩
 ·((conv=>whnf);repeat' (((with_reducible refine br_id ?_);((with_reducible refine br_dec (fun hx=>?_) (fun hx=>?_))<;>(try (exfalso;first|omega|contradiction))))<;>(conv=>whnf)))
  have:i=r.l.length:=by omega
  subst this
  exact ps_of ⟨⟨_,rfl⟩, .inl ⟨q,hq,hp.shut1 (j:=1) rfl⟩⟩
theorem ihasIP {w0:World} {b m:Nat} {l:List (Id×Sl Plc)} {n:Int} (h:(star (iRsIP b m l n)).ok w0) (k:Id) (v:Plc) (hn:(idx l k).l.length≤1000000):Calls Tryz.prog 186 #[ptr b,Id.v k,Plc.v v] w0 fun e w'=>e= .returned (.bool (decide (v∈(idx l k).l)))∧Chg N0 w0 w':=by
 have hp:=Hp.start (S:=N0) w0
 obtain ⟨xs,hxs⟩:∃xs,(idx l k).l=xs:=⟨_,rfl⟩
 refine calls_x (args:= [_,_,_]) tabOk Tryz.func186 Tryz.ntmps186 Tryz.results186 rfl (Nat.le_of_ble_eq_true rfl) ?_
 ((conv=>whnf);repeat' ((first|((with_reducible refine ldn_id ?_);(apply lda_hs hp;(focus repeat' constructor);exact rfl))|((with_reducible refine al_id ?_);(refine al_cel hp ?_;clear hp;intro bb w hp)))<;>(conv=>whnf)))
 rename_i b5 w5
 obtain ⟨rest,hp⟩:∃rest,Hp N0 w0 w (cel bb 4 #[.bool false]::cel b5 164 (Plc.c v).toArray::rest):=⟨_,hp⟩
 obtain ⟨b6,hb6⟩:∃x,x=bb:=⟨_,rfl⟩
 subst hb6
 refine cl_eq (ieachIP b k) rfl rfl ?_
 rintro e w ⟨b2,b3,rfl,hm⟩
 replace hp:=(hp.add hm).unfold
 clear hm
 refine ⟨_,rfl,?_⟩
 ((conv=>whnf);repeat' ((first|((with_reducible refine br_id ?_);first|(with_reducible refine br_t ?_)|(with_reducible refine br_f ?_)|(with_reducible refine br_not ?_)|((with_reducible refine br_dec (fun hx=>?_) (fun hx=>?_))<;>(try (exfalso;first|omega|contradiction)))|((with_reducible refine br_eq (fun hx=>?_) (fun hx=>?_))<;>(try (exfalso;first|omega|contradiction)))|((with_reducible refine br_ne (fun hx=>?_) (fun hx=>?_))<;>(try (exfalso;first|omega|contradiction)))|((with_reducible refine br_s (fun hx=>?_) (fun hx=>?_))<;>(try (exfalso;first|omega|contradiction))))|((with_reducible refine ar_id ?_);first|(refine ar_i64 (by omega) ?_)|(refine ar_u32 (by omega) ?_)|(refine ar_u64 (by omega) ?_)|(refine ar_u8 (by omega) ?_))|((with_reducible refine cn_id ?_);first|(refine cn rfl ?_)|(refine cn ‹_› ?_)|(refine cn (by omega) ?_)|(refine cn (Chg.refl _ _) ?_))|((with_reducible refine ld_id ?_);first|(apply ld_hs hp;(focus repeat' constructor);exact rfl)|(refine ld_of ‹_› ?_))|((with_reducible refine ldn_id ?_);first|(apply lda_hs hp;(focus repeat' constructor);exact rfl)|(apply ldn_hs hp;(focus repeat' constructor);exact rfl;exact rfl))|((with_reducible refine al_id ?_);(refine al_cel hp ?_;clear hp;intro bb w hp))|((with_reducible refine st_id ?_);first|(apply sta_hs hp;(focus repeat' constructor);exact rfl;exact rfl;clear hp;intro w hp;(try dsimp only [List.set] at hp))|(apply st_hs hp;(focus repeat' constructor);exact rfl;exact rfl;clear hp;intro w hp;(try dsimp only [List.set] at hp)))|((with_reducible refine gen_id ?_);first|(apply gen_build;exact rfl;exact rfl)|(apply gen_len;exact rfl;exact rfl;assumption)|(apply gen_min;exact rfl;exact rfl;exact rfl)|(apply gen_max;exact rfl;exact rfl;exact rfl)|(apply gen_ix;exact rfl;exact rfl;exact rfl;exact rfl;omega)|(apply gen_ixa;exact rfl;exact rfl;exact rfl;exact rfl;omega))|((with_reducible refine dr_id ?_);first|(refine dr_auto tabOk (by kernel_rfl) (by decide+kernel) ?_;(try replace hp:=hp.drew))|(refine dr_autog tabOk (by kernel_rfl) (by decide+kernel) ?_;(try replace hp:=hp.drew))|(refine dr_autot tabOk (by kernel_rfl) (by decide+kernel) ?_;(try replace hp:=hp.drew)))|((with_reducible refine fk_id ?_);(refine fk_mk ?_ ?_))|((with_reducible refine bg_id ?_);first|((refine bg_hs hp 0 rfl ?_);clear hp;intro w hp;(try dsimp only [List.set] at hp))|((refine bg_hs hp 1 rfl ?_);clear hp;intro w hp;(try dsimp only [List.set] at hp))|((refine bg_hs hp 2 rfl ?_);clear hp;intro w hp;(try dsimp only [List.set] at hp))|((refine bg_hs hp 3 rfl ?_);clear hp;intro w hp;(try dsimp only [List.set] at hp))|((refine bg_hs hp 4 rfl ?_);clear hp;intro w hp;(try dsimp only [List.set] at hp))|((refine bg_hs hp 5 rfl ?_);clear hp;intro w hp;(try dsimp only [List.set] at hp)))|((with_reducible refine td_id ?_);first|((refine td_hs hp 0 rfl ?_);clear hp;intro w hp;(try dsimp only [List.set] at hp))|((refine td_hs hp 1 rfl ?_);clear hp;intro w hp;(try dsimp only [List.set] at hp))|((refine td_hs hp 2 rfl ?_);clear hp;intro w hp;(try dsimp only [List.set] at hp))|((refine td_hs hp 3 rfl ?_);clear hp;intro w hp;(try dsimp only [List.set] at hp))|((refine td_hs hp 4 rfl ?_);clear hp;intro w hp;(try dsimp only [List.set] at hp))|((refine td_hs hp 5 rfl ?_);clear hp;intro w hp;(try dsimp only [List.set] at hp))|((refine td_hs hp 6 rfl ?_);clear hp;intro w hp;(try dsimp only [List.set] at hp))|((refine td_hs hp 7 rfl ?_);clear hp;intro w hp;(try dsimp only [List.set] at hp)))|((with_reducible refine rd_id ?_);first|(apply rd_len;exact rfl;exact rfl;assumption)|(apply rd_ix;exact rfl;exact rfl;exact rfl;exact rfl;omega)))<;>(conv=>whnf)))
 have hst:(star (iRsIP b m l n)).ok w:=(star (iRsIP b m l n)).keep0 h hp.chg
 have hit:=fun (w1:World) (hc:Chg N0 w w1)=>iiterIP (k:=k) ((star (iRsIP b m l n)).keep0 hst hc) ((cel b3 44 (Id.c k).toArray).keep0 (hp.get (j:=0) rfl) hc) ((cel b2 161 #[ptr b]).keep0 (hp.get (j:=1) rfl) hc) hn
 have hp2:=hp.tail.tail.sub (List.take_sublist 2 _)
 have hp3:Hp N0 w0 w (iEachIP b b2 b3 k++List.take 2 (cel b6 4 #[.bool false]::cel b5 164 (Plc.c v).toArray::rest)):=hp.sub ((List.take_sublist 2 _).append_left (iEachIP b b2 b3 k))
 have hT:=iter_at (T:=(star (iRsIP b m l n)).dom) hp3 fun x hx=>⟨(star (iRsIP b m l n)).lt w0 h x hx,fun hh=>hh⟩
 rw [hxs] at hit ⊢
 refine rf_iter (es:=fun y=> [(11,Plc.v y)]) (rsI:=fun i q=>(∀y∈xs.take i,y≠v)∧q= [cel b6 4 #[.bool false],cel b5 164 (Plc.c v).toArray]) (rsX:=fun _ q=>v∈xs∧q= [cel b6 4 #[.bool true],cel b5 164 (Plc.c v).toArray]) hp2 (by kernel_rfl) (by kernel_rfl) rfl (enters tabOk (by kernel_rfl)) (fun _=>rfl) (fun _=>zip1 _ _) hT hit ⟨by simp,rfl⟩ .ret ⟨_,rfl⟩ ?_ ?_ ?_
 ·clear hp hp2 hp3 hT hit
  rintro i y L D o o' W _ ⟨hno,rfl⟩ hy hc hown hp
  ((conv=>whnf);repeat' ((first|((with_reducible refine br_id ?_);((with_reducible refine br_s (fun hx=>?_) (fun hx=>?_))<;>(try (exfalso;first|omega|contradiction))))|((with_reducible refine cn_id ?_);(refine cn rfl ?_))|((with_reducible refine ldn_id ?_);(apply lda_hs hp;(focus repeat' constructor);exact rfl))|((with_reducible refine al_id ?_);(refine al_cel hp ?_;clear hp;intro bb w hp))|((with_reducible refine st_id ?_);(apply sta_hs hp;(focus repeat' constructor);exact rfl;exact rfl;clear hp;intro w hp;(try dsimp only [List.set] at hp)))|((with_reducible refine gen_id ?_);((refine gen_eqa rfl rfl rfl (eq_plc y v) (by kernel_rfl) (.inl rfl) ?_)))|((with_reducible refine bg_id ?_);((refine bg_hs hp 1 rfl ?_);clear hp;intro w hp;(try dsimp only [List.set] at hp))))<;>(conv=>whnf)))
  ·have hx':y=v:=by simpa using hx
   exact bo ⟨rfl,_,⟨hx'▸List.mem_of_getElem? hy,rfl⟩,hp.tail⟩
  ·refine bo ⟨_,⟨fun z hz=>?_,rfl⟩,hp.tail⟩
   rw [List.take_add_one,hy] at hz
   rcases List.mem_append.1 hz with hz|hz
   ·exact hno z hz
   ·simp at hz
    subst hz
    have hx':¬z=v:=by simpa using hx
    exact hx'
 ·clear hp hp2 hp3 hT hit
  rintro L D o W _ ⟨hf,rfl⟩ hp
  rw [List.take_length] at hf
  ((conv=>whnf);repeat' ((first|((with_reducible refine cn_id ?_);(refine cn rfl ?_))|((with_reducible refine ld_id ?_);(apply ld_hs hp;(focus repeat' constructor);exact rfl))|((with_reducible refine st_id ?_);(apply sta_hs hp;(focus repeat' constructor);exact rfl;exact rfl;clear hp;intro w hp;(try dsimp only [List.set] at hp)))|((with_reducible refine td_id ?_);((refine td_hs hp 1 rfl ?_);clear hp;intro w hp;(try dsimp only [List.set] at hp))))<;>(conv=>whnf)))
  exact ps_val (v':= .bool false) rfl ⟨by rw [decide_eq_false fun hh=>hf v hh rfl],hp.chg⟩
 ·clear hp hp2 hp3 hT hit
  rintro i L D o W _ hi ⟨hf,rfl⟩ hp
  ((conv=>whnf);repeat' ((first|((with_reducible refine ld_id ?_);(apply ld_hs hp;(focus repeat' constructor);exact rfl))|((with_reducible refine td_id ?_);((refine td_hs hp 1 rfl ?_);clear hp;intro w hp;(try dsimp only [List.set] at hp))))<;>(conv=>whnf)))
  exact ps_val (v':= .bool true) rfl ⟨by rw [decide_eq_true hf],hp.chg⟩
end Go.Proofs.YteabebmlclgakaaGreat
/- HintHI: an index of the package hints: api.Hint to api.Id. -/
namespace Go.Proofs.YteabebmlclgakaaGreat
open Go.RowKit
set_option maxRecDepth 100000
set_option maxHeartbeats 2000000
abbrev iRsHI (b m:Nat) (l:List (Hint×Sl Id)) (n:Int):List Res:=idxRs 259 44 32 Hint.v Id.c b m l n
theorem inoneHI {w0:World} {b m:Nat} (hc:w0.cell? ⟨b,0,none⟩=some (.map (some m))):Calls Tryz.prog 187 #[ptr b] w0 fun e w'=>e= .returned (.bool false)∧Chg N0 w0 w':=by
 have hp:=Hp.start (S:=N0) w0
 refine calls_x (args:= [_]) tabOk Tryz.func187 Tryz.ntmps187 Tryz.results187 rfl (Nat.le_of_ble_eq_true rfl) ?_
 ((conv=>whnf);repeat' ((first|((with_reducible refine br_id ?_);(with_reducible refine br_f ?_))|((with_reducible refine ld_id ?_);((refine ld_of (hp.chg.cell0 hc) ?_))))<;>(conv=>whnf)))
 exact ps_val (v':= .bool false) rfl ⟨rfl,hp.chg⟩
theorem inewHI {w0:World}:Calls Tryz.prog 107 #[] w0 fun e w'=>∃b m,e= .returned (ptr b)∧Made (star (iRsHI b m [] 0)) w0 w':=by
 have hp:=Hp.start (S:=N0) w0
 refine calls_x (args:= []) tabOk Tryz.func107 Tryz.ntmps107 Tryz.results107 rfl (Nat.le_of_ble_eq_true rfl) ?_
 ((conv=>whnf);repeat' ((first|((with_reducible refine al_id ?_);(refine al_cel hp ?_;clear hp;intro bb w hp))|((with_reducible refine gen_id ?_);first|((refine gen_mmake rfl Hint.v (Sl.v (α:=Id)) hp ?_);clear hp;intro bb w hp)|(apply gen_build;exact rfl;exact rfl)))<;>(conv=>whnf)))
 exact ps_of ⟨_,_,rfl,hp.made (.refl _)⟩
theorem iatHI {w0:World} {b m:Nat} {l:List (Hint×Sl Id)} {n:Int} (h:IdxAt Hint.v Id.c 32 w0 b m l n) (k:Hint) (hn:(idx l k).l.length≤1000000):Calls Tryz.prog 245 #[ptr b,Hint.v k] w0 fun e w'=>∃r:Sl Id,r.l=(idx l k).l∧e= .returned r.v∧Made (rowR 44 32 Id.c r) w0 w':=by
 have hp:=Hp.start (S:=N0) w0
 have hB:∀b,N0 b→w0.heap.size≤b:=fun _ hh=>hh.elim
 have hsa:=h.idx k
 obtain ⟨s,hs⟩:∃s,idx l k=s:=⟨_,rfl⟩
 rw [hs] at hn hsa ⊢
 refine calls_x (args:= [_,_]) tabOk Tryz.func245 Tryz.ntmps245 Tryz.results245 rfl (Nat.le_of_ble_eq_true rfl) ?_
 ((conv=>whnf);repeat' ((first|((with_reducible refine br_id ?_);(with_reducible refine br_f ?_))|((with_reducible refine ld_id ?_);((refine ld_of (hp.chg.cell0 h.c0) ?_)))|((with_reducible refine ldn_id ?_);(apply lda_hs hp;(focus repeat' constructor);exact rfl))|((with_reducible refine al_id ?_);(refine al_cel hp ?_;clear hp;intro bb w hp))|((with_reducible refine gen_id ?_);((refine gen_app0 rfl hp el_id rfl s rfl (hsa.keep hp.chg hB) (fun _ _=>rfl) idL_one (by omega) (by simp only [maxLen];omega) ?_);clear hp;intro A1 c1 w hcc hp))|((with_reducible refine dr_id ?_);(refine dr_auto tabOk (by kernel_rfl) (by decide+kernel) ?_;(try replace hp:=hp.drew)))|((with_reducible refine cl_id ?_);((refine cl_eq ((inoneHI (hp.chg.cell0 h.c0))) rfl rfl ?_;rintro e w ⟨rfl,hcc⟩;replace hp:=hp.call0 hcc;refine ⟨_,rfl,?_⟩)))|((with_reducible refine rd_id ?_);((refine rd_lookM rfl (h.map.keep0 hp.chg) rfl hintK Tryz.underlying257 (z:=Sl.nil) rfl k rfl hs ?_))))<;>(conv=>whnf)))
 exact ps_val (v':= .slice A1 s.l.length c1) rfl ⟨⟨A1,c1,s.l⟩,rfl,rfl,hp.made1 (j:=0) rfl⟩
theorem ieachHI {w0:World} (b:Nat) (k:Hint):Calls Tryz.prog 219 #[ptr b,Hint.v k] w0 fun e w'=>∃b2 b3,e= .returned (.func (.func 244) #[] #[ptr b2,ptr b3])∧Made (star [cel b3 37 (Hint.c k).toArray,cel b2 165 #[ptr b]]) w0 w':=by
 have hp:=Hp.start (S:=N0) w0
 refine calls_x (args:= [_,_]) tabOk Tryz.func219 Tryz.ntmps219 Tryz.results219 rfl (Nat.le_of_ble_eq_true rfl) ?_
 ((conv=>whnf);repeat' ((first|((with_reducible refine al_id ?_);(refine al_cel hp ?_;clear hp;intro bb w hp))|((with_reducible refine gen_id ?_);((refine gen_mkf rfl rfl ?_))))<;>(conv=>whnf)))
 exact ps_of ⟨_,_,rfl,hp.made (.refl _)⟩
abbrev iEachHI (b b2 b3:Nat) (k:Hint):List Res:= [cel b3 37 (Hint.c k).toArray,cel b2 165 #[ptr b]]
theorem iiterHI {w0:World} {b m b2 b3:Nat} {l:List (Hint×Sl Id)} {n:Int} {k:Hint} (h:(star (iRsHI b m l n)).ok w0) (h3:(cel b3 37 (Hint.c k).toArray).ok w0) (h2:(cel b2 165 #[ptr b]).ok w0) (hn:(idx l k).l.length≤1000000):
  Iter Tryz.prog (fun x=>(∃r∈iEachHI b b2 b3 k,r.dom x)∨(star (iRsHI b m l n)).dom x) 244 #[ptr b2,ptr b3] (fun v:Id=> #[Id.v v]) (idx l k).l w0:=by
 refine ⟨fun L R X r0 hR0 hR hdis hy=>?_⟩
 have hp:=Hp.start1 hR
 have hx2:¬r0.dom b2:=fun hh=>hdis _ hh (.inl ⟨_,List.mem_cons_of_mem _ (List.mem_cons_self ..),cel_dom.2 rfl⟩)
 have hx3:¬r0.dom b3:=fun hh=>hdis _ hh (.inl ⟨_,List.mem_cons_self ..,cel_dom.2 rfl⟩)
 have hxi:∀x,(star (iRsHI b m l n)).dom x→¬r0.dom x:=fun x hx hh=>hdis _ hh (.inr hx)
 obtain ⟨xs,hxs⟩:∃xs,(idx l k).l=xs:=⟨_,rfl⟩
 have hsat:=fun {w:World} (hc:Chg r0.dom w0 w)=>iatHI (idxAt ((star (iRsHI b m l n)).keep h hc hxi)) k hn
 rw [hxs] at hy hsat ⊢
 show Calls _ _ #[.func (.yield L) #[] #[],ptr b2,ptr b3] w0 _
 have us:=Tryz.underlying52
 refine calls_x (args:= [_,_,_]) tabOk Tryz.func244 Tryz.ntmps244 Tryz.results244 rfl (Nat.le_of_ble_eq_true rfl) ?_
 ((conv=>whnf);repeat' ((first|((with_reducible refine ld_id ?_);((refine ld_of (hp.chg.cell (cell_of_heap (cel_ok.1 h2) rfl) hx2) ?_)))|((with_reducible refine ldn_id ?_);((refine ldn_heap (hp.chg.heap (cel_ok.1 h3) hx3) rfl ?_))))<;>(conv=>whnf)))
 refine cl_eq (hsat hp.chg) rfl rfl ?_
 rintro e w ⟨r,hr,rfl,hm⟩
 replace hp:=hp.add hm
 clear hm
 refine ⟨_,rfl,?_⟩
 subst hr
 have hmax:r.l.length≤9223372036854775807:=by have:=(hp.row (j:=0) rfl).le;have:=(hp.row (j:=0) rfl).max;simp only [maxLen] at this;omega
 ((conv=>whnf);repeat' (((with_reducible refine gen_id ?_);(apply gen_len;exact rfl;exact rfl;assumption))<;>(conv=>whnf)))
 refine lp_inv (α:=Nat) (fun i=> [(0, .func (.yield L) #[] #[]),(8,r.v),(9,i64 r.l.length),(10,i64 i)]) (fun i w=>i≤r.l.length∧∃q,R i q∧Hp r0.dom w0 w [rowR 44 32 Id.c r,q]) (fun i=>r.l.length - i) 0 (by (repeat' (first|exact trivial|(refine ⟨rfl,?_⟩)))) ⟨by omega,r0,hR0,hp⟩ ?_
 clear hp
 rintro i e0 w ⟨hi,q,hq,hp⟩
 dsimp only at hi hp ⊢
 rcases Nat.lt_or_ge i r.l.length with hlt|hge
 ·obtain ⟨bb,oo,y,hA,hbb,hrow,hyy⟩:=(hp.row (j:=0) rfl).has hlt
  ((conv=>whnf);repeat' ((first|((with_reducible refine br_id ?_);((with_reducible refine br_dec (fun hx=>?_) (fun hx=>?_))<;>(try (exfalso;first|omega|contradiction))))|((with_reducible refine cn_id ?_);(refine cn rfl ?_))|((with_reducible refine ldn_id ?_);first|((refine ldn_ownx hp 0 rfl ‹_› _ rfl ‹_› rfl ?_))|(apply lda_hs hp;(focus repeat' constructor);exact rfl))|((with_reducible refine al_id ?_);(refine al_cel hp ?_;clear hp;intro bb w hp))|((with_reducible refine st_id ?_);(apply sta_hs hp;(focus repeat' constructor);exact rfl;exact rfl;clear hp;intro w hp;(try dsimp only [List.set] at hp)))|((with_reducible refine gen_id ?_);((refine gen_ixs rfl rfl ‹_› rfl rfl (by omega) ?_))))<;>(conv=>whnf)))
  refine yl_of (hy i y w q hq hyy (hp.shut1 (j:=2) rfl)) rfl ?_
  rintro e w (⟨rfl,q',hq',hm⟩|⟨rfl,q',hq',hm⟩)
  ·replace hp:=hp.via (j:=2) rfl hm
   dsimp only [List.set] at hp
   refine ⟨_,rfl,?_⟩
   ((conv=>whnf);repeat' ((first|((with_reducible refine br_id ?_);first|(with_reducible refine br_t ?_)|(with_reducible refine br_not ?_))|((with_reducible refine ar_id ?_);(refine ar_i64 (by omega) ?_)))<;>(conv=>whnf)))
   exact lp_next (i+1) (by show r.l.length - (i+1) < r.l.length - i;omega) (by (repeat' (first|exact trivial|(refine ⟨rfl,?_⟩)))) ⟨by show i+1≤_;omega,q',hq',hp.tail⟩
  ·replace hp:=hp.via (j:=2) rfl hm
   dsimp only [List.set] at hp
   refine ⟨_,rfl,?_⟩
   ((conv=>whnf);repeat' (((with_reducible refine br_id ?_);first|(with_reducible refine br_f ?_)|(with_reducible refine br_not ?_))<;>(conv=>whnf)))
   exact ps_of ⟨⟨_,rfl⟩, .inr ⟨i,q',hlt,hq',hp.shut1 (j:=2) rfl⟩⟩
 ·((conv=>whnf);repeat' (((with_reducible refine br_id ?_);((with_reducible refine br_dec (fun hx=>?_) (fun hx=>?_))<;>(try (exfalso;first|omega|contradiction))))<;>(conv=>whnf)))
  have:i=r.l.length:=by omega
  subst this
  exact ps_of ⟨⟨_,rfl⟩, .inl ⟨q,hq,hp.shut1 (j:=1) rfl⟩⟩
theorem ihasHI {w0:World} {b m:Nat} {l:List (Hint×Sl Id)} {n:Int} (h:(star (iRsHI b m l n)).ok w0) (k:Hint) (v:Id) (hn:(idx l k).l.length≤1000000):Calls Tryz.prog 188 #[ptr b,Hint.v k,Id.v v] w0 fun e w'=>e= .returned (.bool (decide (v∈(idx l k).l)))∧Chg N0 w0 w':=by
 have hp:=Hp.start (S:=N0) w0
 obtain ⟨xs,hxs⟩:∃xs,(idx l k).l=xs:=⟨_,rfl⟩
 refine calls_x (args:= [_,_,_]) tabOk Tryz.func188 Tryz.ntmps188 Tryz.results188 rfl (Nat.le_of_ble_eq_true rfl) ?_
 ((conv=>whnf);repeat' ((first|((with_reducible refine ldn_id ?_);(apply lda_hs hp;(focus repeat' constructor);exact rfl))|((with_reducible refine al_id ?_);(refine al_cel hp ?_;clear hp;intro bb w hp)))<;>(conv=>whnf)))
 rename_i b5 w5
 obtain ⟨rest,hp⟩:∃rest,Hp N0 w0 w (cel bb 4 #[.bool false]::cel b5 44 (Id.c v).toArray::rest):=⟨_,hp⟩
 obtain ⟨b6,hb6⟩:∃x,x=bb:=⟨_,rfl⟩
 subst hb6
 refine cl_eq (ieachHI b k) rfl rfl ?_
 rintro e w ⟨b2,b3,rfl,hm⟩
 replace hp:=(hp.add hm).unfold
 clear hm
 refine ⟨_,rfl,?_⟩
 ((conv=>whnf);repeat' ((first|((with_reducible refine br_id ?_);first|(with_reducible refine br_t ?_)|(with_reducible refine br_f ?_)|(with_reducible refine br_not ?_)|((with_reducible refine br_dec (fun hx=>?_) (fun hx=>?_))<;>(try (exfalso;first|omega|contradiction)))|((with_reducible refine br_eq (fun hx=>?_) (fun hx=>?_))<;>(try (exfalso;first|omega|contradiction)))|((with_reducible refine br_ne (fun hx=>?_) (fun hx=>?_))<;>(try (exfalso;first|omega|contradiction)))|((with_reducible refine br_s (fun hx=>?_) (fun hx=>?_))<;>(try (exfalso;first|omega|contradiction))))|((with_reducible refine ar_id ?_);first|(refine ar_i64 (by omega) ?_)|(refine ar_u32 (by omega) ?_)|(refine ar_u64 (by omega) ?_)|(refine ar_u8 (by omega) ?_))|((with_reducible refine cn_id ?_);first|(refine cn rfl ?_)|(refine cn ‹_› ?_)|(refine cn (by omega) ?_)|(refine cn (Chg.refl _ _) ?_))|((with_reducible refine ld_id ?_);first|(apply ld_hs hp;(focus repeat' constructor);exact rfl)|(refine ld_of ‹_› ?_))|((with_reducible refine ldn_id ?_);first|(apply lda_hs hp;(focus repeat' constructor);exact rfl)|(apply ldn_hs hp;(focus repeat' constructor);exact rfl;exact rfl))|((with_reducible refine al_id ?_);(refine al_cel hp ?_;clear hp;intro bb w hp))|((with_reducible refine st_id ?_);first|(apply sta_hs hp;(focus repeat' constructor);exact rfl;exact rfl;clear hp;intro w hp;(try dsimp only [List.set] at hp))|(apply st_hs hp;(focus repeat' constructor);exact rfl;exact rfl;clear hp;intro w hp;(try dsimp only [List.set] at hp)))|((with_reducible refine gen_id ?_);first|(apply gen_build;exact rfl;exact rfl)|(apply gen_len;exact rfl;exact rfl;assumption)|(apply gen_min;exact rfl;exact rfl;exact rfl)|(apply gen_max;exact rfl;exact rfl;exact rfl)|(apply gen_ix;exact rfl;exact rfl;exact rfl;exact rfl;omega)|(apply gen_ixa;exact rfl;exact rfl;exact rfl;exact rfl;omega))|((with_reducible refine dr_id ?_);first|(refine dr_auto tabOk (by kernel_rfl) (by decide+kernel) ?_;(try replace hp:=hp.drew))|(refine dr_autog tabOk (by kernel_rfl) (by decide+kernel) ?_;(try replace hp:=hp.drew))|(refine dr_autot tabOk (by kernel_rfl) (by decide+kernel) ?_;(try replace hp:=hp.drew)))|((with_reducible refine fk_id ?_);(refine fk_mk ?_ ?_))|((with_reducible refine bg_id ?_);first|((refine bg_hs hp 0 rfl ?_);clear hp;intro w hp;(try dsimp only [List.set] at hp))|((refine bg_hs hp 1 rfl ?_);clear hp;intro w hp;(try dsimp only [List.set] at hp))|((refine bg_hs hp 2 rfl ?_);clear hp;intro w hp;(try dsimp only [List.set] at hp))|((refine bg_hs hp 3 rfl ?_);clear hp;intro w hp;(try dsimp only [List.set] at hp))|((refine bg_hs hp 4 rfl ?_);clear hp;intro w hp;(try dsimp only [List.set] at hp))|((refine bg_hs hp 5 rfl ?_);clear hp;intro w hp;(try dsimp only [List.set] at hp)))|((with_reducible refine td_id ?_);first|((refine td_hs hp 0 rfl ?_);clear hp;intro w hp;(try dsimp only [List.set] at hp))|((refine td_hs hp 1 rfl ?_);clear hp;intro w hp;(try dsimp only [List.set] at hp))|((refine td_hs hp 2 rfl ?_);clear hp;intro w hp;(try dsimp only [List.set] at hp))|((refine td_hs hp 3 rfl ?_);clear hp;intro w hp;(try dsimp only [List.set] at hp))|((refine td_hs hp 4 rfl ?_);clear hp;intro w hp;(try dsimp only [List.set] at hp))|((refine td_hs hp 5 rfl ?_);clear hp;intro w hp;(try dsimp only [List.set] at hp))|((refine td_hs hp 6 rfl ?_);clear hp;intro w hp;(try dsimp only [List.set] at hp))|((refine td_hs hp 7 rfl ?_);clear hp;intro w hp;(try dsimp only [List.set] at hp)))|((with_reducible refine rd_id ?_);first|(apply rd_len;exact rfl;exact rfl;assumption)|(apply rd_ix;exact rfl;exact rfl;exact rfl;exact rfl;omega)))<;>(conv=>whnf)))
 have hst:(star (iRsHI b m l n)).ok w:=(star (iRsHI b m l n)).keep0 h hp.chg
 have hit:=fun (w1:World) (hc:Chg N0 w w1)=>iiterHI (k:=k) ((star (iRsHI b m l n)).keep0 hst hc) ((cel b3 37 (Hint.c k).toArray).keep0 (hp.get (j:=0) rfl) hc) ((cel b2 165 #[ptr b]).keep0 (hp.get (j:=1) rfl) hc) hn
 have hp2:=hp.tail.tail.sub (List.take_sublist 2 _)
 have hp3:Hp N0 w0 w (iEachHI b b2 b3 k++List.take 2 (cel b6 4 #[.bool false]::cel b5 44 (Id.c v).toArray::rest)):=hp.sub ((List.take_sublist 2 _).append_left (iEachHI b b2 b3 k))
 have hT:=iter_at (T:=(star (iRsHI b m l n)).dom) hp3 fun x hx=>⟨(star (iRsHI b m l n)).lt w0 h x hx,fun hh=>hh⟩
 rw [hxs] at hit ⊢
 refine rf_iter (es:=fun y=> [(11,Id.v y)]) (rsI:=fun i q=>(∀y∈xs.take i,y≠v)∧q= [cel b6 4 #[.bool false],cel b5 44 (Id.c v).toArray]) (rsX:=fun _ q=>v∈xs∧q= [cel b6 4 #[.bool true],cel b5 44 (Id.c v).toArray]) hp2 (by kernel_rfl) (by kernel_rfl) rfl (enters tabOk (by kernel_rfl)) (fun _=>rfl) (fun _=>zip1 _ _) hT hit ⟨by simp,rfl⟩ .ret ⟨_,rfl⟩ ?_ ?_ ?_
 ·clear hp hp2 hp3 hT hit
  rintro i y L D o o' W _ ⟨hno,rfl⟩ hy hc hown hp
  ((conv=>whnf);repeat' ((first|((with_reducible refine br_id ?_);((with_reducible refine br_s (fun hx=>?_) (fun hx=>?_))<;>(try (exfalso;first|omega|contradiction))))|((with_reducible refine cn_id ?_);(refine cn rfl ?_))|((with_reducible refine ldn_id ?_);(apply lda_hs hp;(focus repeat' constructor);exact rfl))|((with_reducible refine al_id ?_);(refine al_cel hp ?_;clear hp;intro bb w hp))|((with_reducible refine st_id ?_);(apply sta_hs hp;(focus repeat' constructor);exact rfl;exact rfl;clear hp;intro w hp;(try dsimp only [List.set] at hp)))|((with_reducible refine gen_id ?_);((refine gen_eqa rfl rfl rfl (eq_id y v) (by kernel_rfl) (.inl rfl) ?_)))|((with_reducible refine bg_id ?_);((refine bg_hs hp 1 rfl ?_);clear hp;intro w hp;(try dsimp only [List.set] at hp))))<;>(conv=>whnf)))
  ·have hx':y=v:=by simpa using hx
   exact bo ⟨rfl,_,⟨hx'▸List.mem_of_getElem? hy,rfl⟩,hp.tail⟩
  ·refine bo ⟨_,⟨fun z hz=>?_,rfl⟩,hp.tail⟩
   rw [List.take_add_one,hy] at hz
   rcases List.mem_append.1 hz with hz|hz
   ·exact hno z hz
   ·simp at hz
    subst hz
    have hx':¬z=v:=by simpa using hx
    exact hx'
 ·clear hp hp2 hp3 hT hit
  rintro L D o W _ ⟨hf,rfl⟩ hp
  rw [List.take_length] at hf
  ((conv=>whnf);repeat' ((first|((with_reducible refine cn_id ?_);(refine cn rfl ?_))|((with_reducible refine ld_id ?_);(apply ld_hs hp;(focus repeat' constructor);exact rfl))|((with_reducible refine st_id ?_);(apply sta_hs hp;(focus repeat' constructor);exact rfl;exact rfl;clear hp;intro w hp;(try dsimp only [List.set] at hp)))|((with_reducible refine td_id ?_);((refine td_hs hp 1 rfl ?_);clear hp;intro w hp;(try dsimp only [List.set] at hp))))<;>(conv=>whnf)))
  exact ps_val (v':= .bool false) rfl ⟨by rw [decide_eq_false fun hh=>hf v hh rfl],hp.chg⟩
 ·clear hp hp2 hp3 hT hit
  rintro i L D o W _ hi ⟨hf,rfl⟩ hp
  ((conv=>whnf);repeat' ((first|((with_reducible refine ld_id ?_);(apply ld_hs hp;(focus repeat' constructor);exact rfl))|((with_reducible refine td_id ?_);((refine td_hs hp 1 rfl ?_);clear hp;intro w hp;(try dsimp only [List.set] at hp))))<;>(conv=>whnf)))
  exact ps_val (v':= .bool true) rfl ⟨by rw [decide_eq_true hf],hp.chg⟩
end Go.Proofs.YteabebmlclgakaaGreat
/- Seen0: an index of package seen: what only reads: none, Len, Times, first, Has, Span; hints of ids. -/
namespace Go.Proofs.YteabebmlclgakaaGreat
open Go.RowKit
set_option maxRecDepth 100000
set_option maxHeartbeats 2000000
section
variable {α : Type} {P : Program} {w : World} {ρ : Operand → Value} {o : Oper} {t e : TypeId} {x hi : Operand}
theorem rd_arrh {g:Value→Prop} (hop:o.op= .slice t x none (some hi) none) {n:Nat} (ht:P.underlying t=some (.array n e)) {b ofs:Nat} (hx:ρ x= .pointer (some ⟨b,ofs,none⟩)) (he:∃i,P.info? e=some i∧i.size=1) {k:IntKind} {m:Int} (hh:ρ hi= .int k m) (q:Nat) (hm:m=q) (hq:q≤n) (hn0:0 < n) (hk:g (.slice (some ⟨b,ofs,none⟩) q n)):Rd P ρ o w g:=by
 obtain ⟨i,hi,hs⟩:=he
 subst hm
 have h1:(0:Int)≤(q:Int)∧(q:Int)≤(n:Int):=by omega
 have h2:¬n=0:=by omega
 exact ⟨.slice (some ⟨b,ofs,none⟩) q n,fun w' _=>by simp [execOp,hop,hx,hh,Instr.sliceAt,Instr.sureAddr,run_underlying ht,Instr.sliceBounds,Instr.sliceBound,asIntOf,sizeOf,typeInfo,hi,hs,add_plain,hq,h1,h2],hk⟩
theorem rd_s2ap {g:Value→Prop} (hop:o.op= .sliceToArrayPointer t x) {n:Nat} (ht:P.underlying t=some (.array n e)) {a:Option Addr} {l c:Nat} (hx:ρ x= .slice a l c) (hl:n≤l) (hk:g (.pointer a)):Rd P ρ o w g:=
 ⟨.pointer a,fun w' _=>by simp [execOp,hop,hx,Instr.arrayAt,run_underlying ht,Nat.not_lt.2 hl],hk⟩
theorem gen_arrh {g:Value→World→Prop} (hop:o.op= .slice t x none (some hi) none) {n:Nat} (ht:P.underlying t=some (.array n e)) {b ofs:Nat} (hx:ρ x= .pointer (some ⟨b,ofs,none⟩)) (he:∃i,P.info? e=some i∧i.size=1) {k:IntKind} {m:Int} (hh:ρ hi= .int k m) (q:Nat) (hm:m=q) (hq:q≤n) (hn0:0 < n) (hk:g (.slice (some ⟨b,ofs,none⟩) q n) w):Gen P ρ o w g:=by
 obtain ⟨v',h1,h2⟩:=rd_arrh (g:=fun v=>g v w) (w:=w) hop ht hx he hh q hm hq hn0 hk
 exact gen_v (h1 w (Chg.refl _ _)) h2
theorem gen_s2ap {g:Value→World→Prop} (hop:o.op= .sliceToArrayPointer t x) {n:Nat} (ht:P.underlying t=some (.array n e)) {a:Option Addr} {l c:Nat} (hx:ρ x= .slice a l c) (hl:n≤l) (hk:g (.pointer a) w):Gen P ρ o w g:=by
 obtain ⟨v',h1,h2⟩:=rd_s2ap (g:=fun v=>g v w) (w:=w) hop ht hx hl hk
 exact gen_v (h1 w (Chg.refl _ _)) h2
end
def hintOf (x:Id):Hint:= #v[x[0],x[1],x[2],x[3],x[4],x[5],x[6],x[7],x[8],x[9],x[10],x[11],x[12],x[13],x[14],x[15]]
theorem hintof_any (w0:World) (x:Id):Calls Tryz.prog 114 #[x.v] w0 fun e w'=>e= .returned (hintOf x).v∧Chg N0 w0 w':=by
 have hp:=Hp.start (S:=N0) w0
 obtain ⟨i8,hi8,hs8⟩:∃i,Tryz.prog.info? 5=some i∧i.size=1:=⟨_,rfl,rfl⟩
 refine calls_x (args:= [_]) tabOk Tryz.func114 Tryz.ntmps114 Tryz.results114 rfl (Nat.le_of_ble_eq_true rfl) ?_
 ((conv=>whnf);repeat' ((first|((with_reducible refine cn_id ?_);(refine cn rfl ?_))|((with_reducible refine ldn_id ?_);first|(apply lda_hs hp;(focus repeat' constructor);exact rfl)|(apply ldn_hs hp;(focus repeat' constructor);exact rfl;exact rfl))|((with_reducible refine al_id ?_);(refine al_cel hp ?_;clear hp;intro bb w hp))|((with_reducible refine st_id ?_);(apply sta_hs hp;(focus repeat' constructor);exact rfl;exact rfl;clear hp;intro w hp;(try dsimp only [List.set] at hp)))|((with_reducible refine gen_id ?_);first|((refine gen_arrh rfl Tryz.underlying44 rfl ⟨i8,hi8,hs8⟩ rfl 16 rfl (by omega) (by omega) ?_))|((refine gen_s2ap rfl Tryz.underlying37 rfl (by omega) ?_))))<;>(conv=>whnf)))
 exact ps_val (v':=(hintOf x).v) rfl ⟨rfl,hp.chg⟩
def plcLt (a b:Plc):Prop:=(a.h.toNat:Int) < b.h.toNat∨((a.h.toNat:Int)=b.h.toNat∧a.at' < b.at')
instance (a b:Plc):Decidable (plcLt a b):=by unfold plcLt;infer_instance
structure Snx where
 low:UInt32
 bs:Sl Blk
 bw:Nat
 mw:Nat
 lw:List (Id×Sl Plc)
 nw:Int
 bh:Nat
 mh:Nat
 lh:List (Hint×Sl Id)
 nh:Int
abbrev Snx.c (X:Snx):List Value:= [X.bs.v,u32 X.low,ptr X.bw,ptr X.bh]
structure SnAt (w:World) (b:Nat) (X:Snx):Prop where
 cel:w.heap[b]? =some (.cells X.c.toArray 168)
 wh:IdxAt Id.v Plc.c 2 w X.bw X.mw X.lw X.nw
 hi:IdxAt Hint.v Id.c 32 w X.bh X.mh X.lh X.nh
 bs:SlAt w.heap.size w Blk.c 65 X.bs
theorem SnAt.keep0 {w w':World} {b:Nat} {X:Snx} (h:SnAt w b X) (hc:Chg N0 w w'):SnAt w' b X:=
 ⟨hc.heap h.cel fun hh=>hh,h.wh.keep0 hc,h.hi.keep0 hc,(h.bs.keep hc fun _ hh=>hh.elim).more hc.size⟩
theorem SnAt.cell {w:World} {b:Nat} {X:Snx} (h:SnAt w b X) {i:Nat} {v:Value} (hi:X.c[i]? =some v):w.cell? ⟨b,i,none⟩=some v:=cell_of_heap h.cel (by simpa using hi)
theorem snone_any {w0:World} {b:Nat} {X:Snx} (h:SnAt w0 b X):Calls Tryz.prog 110 #[ptr b] w0 fun e w'=>e= .returned (.bool false)∧Chg N0 w0 w':=by
 have hp:=Hp.start (S:=N0) w0
 refine calls_x (args:= [_]) tabOk Tryz.func110 Tryz.ntmps110 Tryz.results110 rfl (Nat.le_of_ble_eq_true rfl) ?_
 ((conv=>whnf);repeat' ((first|((with_reducible refine br_id ?_);(with_reducible refine br_f ?_))|((with_reducible refine ld_id ?_);((refine ld_of ((h.keep0 hp.chg).cell rfl) ?_))))<;>(conv=>whnf)))
 exact ps_val (v':= .bool false) rfl ⟨rfl,hp.chg⟩
end Go.Proofs.YteabebmlclgakaaGreat
/- SixPlc: where a value stands first. -/
namespace Go.Proofs.YteabebmlclgakaaGreat
open Go.RowKit
set_option maxRecDepth 100000
set_option maxHeartbeats 2000000
end Go.Proofs.YteabebmlclgakaaGreat
/- HintIP2: an index: notes, strikes. -/
namespace Go.Proofs.YteabebmlclgakaaGreat
open Go.RowKit
set_option maxRecDepth 100000
set_option maxHeartbeats 2000000
theorem inoteIP {w0:World} {b m:Nat} {l:List (Id×Sl Plc)} {n:Int} (h:(star (iRsIP b m l n)).ok w0) (k:Id) (v:Plc) (hn:(idx l k).l.length≤100000) (hn2: -1000000≤n∧n≤1000000):Calls Tryz.prog 112 #[ptr b,Id.v k,Plc.v v] w0 fun e w'=>
  (v∈(idx l k).l∧e= .returned (.bool false)∧Chg N0 w0 w')∨(v∉(idx l k).l∧e= .returned (.bool true)∧∃s':Sl Plc,s'.l=(idx l k).l++ [v]∧Mut (star (iRsIP b m l n)) (star (iRsIP b m (mput l k s') (n+1))) w0 w'):=by
 have hI:=idxAt h
 by_cases hv:v∈(idx l k).l
 ·have hp:=Hp.start (S:=N0) w0
  have hhas:∀{w:World},Chg N0 w0 w→Calls Tryz.prog 186 #[ptr b,Id.v k,Plc.v v] w fun e w'=>e= .returned (.bool true)∧Chg N0 w w':=fun hc=>by
   have:=ihasIP ((star (iRsIP b m l n)).keep0 h hc) k v (by omega)
   rwa [decide_eq_true hv] at this
  refine calls_x (args:= [_,_,_]) tabOk Tryz.func112 Tryz.ntmps112 Tryz.results112 rfl (Nat.le_of_ble_eq_true rfl) ?_
  ((conv=>whnf);repeat' ((first|((with_reducible refine br_id ?_);first|(with_reducible refine br_t ?_)|(with_reducible refine br_f ?_))|((with_reducible refine ldn_id ?_);(apply lda_hs hp;(focus repeat' constructor);exact rfl))|((with_reducible refine al_id ?_);(refine al_cel hp ?_;clear hp;intro bb w hp))|((with_reducible refine cl_id ?_);first|((refine cl_eq ((inoneIP (hp.chg.cell0 hI.c0))) rfl rfl ?_;rintro e w ⟨rfl,hcc⟩;replace hp:=hp.call0 hcc;refine ⟨_,rfl,?_⟩))|((refine cl_eq ((hhas hp.chg)) rfl rfl ?_;rintro e w ⟨rfl,hcc⟩;replace hp:=hp.call0 hcc;refine ⟨_,rfl,?_⟩))))<;>(conv=>whnf)))
  exact ps_val (v':= .bool false) rfl (.inl ⟨hv,rfl,hp.chg⟩)
 ·have hp:=Hp.open h
  have hhas:∀{w:World} {c:List Res},Hp (star (iRsIP b m l n)).dom w0 w (c++iRsIP b m l n)→Calls Tryz.prog 186 #[ptr b,Id.v k,Plc.v v] w fun e w'=>e= .returned (.bool false)∧Chg N0 w w':=fun {w c} hp=>by
   have h1:(star (iRsIP b m l n)).ok w:=(hp.sub (List.sublist_append_right c _)).fold1.get (j:=0) rfl
   have:=ihasIP h1 k v (by omega)
   rwa [decide_eq_false hv] at this
  have hkk:EqIs Tryz.prog 44 (Id.v k) (Id.v k) true:=by have:=eq_id k k;rwa [decide_eq_true rfl] at this
  have hbn:(if BinOp.neq=BinOp.eql then true else !true)=false:=rfl
  refine calls_x (args:= [_,_,_]) tabOk Tryz.func112 Tryz.ntmps112 Tryz.results112 rfl (Nat.le_of_ble_eq_true rfl) ?_
  ((conv=>whnf);repeat' ((first|((with_reducible refine br_id ?_);first|((with_reducible refine br_0 hbn ?_))|(with_reducible refine br_f ?_))|((with_reducible refine ldn_id ?_);(apply lda_hs hp;(focus repeat' constructor);exact rfl))|((with_reducible refine al_id ?_);(refine al_cel hp ?_;clear hp;intro bb w hp))|((with_reducible refine gen_id ?_);((refine gen_eqa rfl rfl rfl hkk (by kernel_rfl) (.inr rfl) ?_)))|((with_reducible refine cl_id ?_);first|((refine cl_eq ((inoneIP (cell_of_heap (hp.cel_get (j:=2) rfl) rfl))) rfl rfl ?_;rintro e w ⟨rfl,hcc⟩;replace hp:=hp.call0 hcc;refine ⟨_,rfl,?_⟩))|((refine cl_eq ((hhas (c:= [_,_]) hp)) rfl rfl ?_;rintro e w ⟨rfl,hcc⟩;replace hp:=hp.call0 hcc;refine ⟨_,rfl,?_⟩))))<;>(conv=>whnf)))
  obtain ⟨rest,hp,hperm, -⟩:=idx_out (c:= [_,_]) k hp
  have hl1:=(hp.row (j:=0) rfl).le
  refine dr_autos [1,2,3,4] 13 tabOk (by kernel_rfl) (by decide+kernel) ?_
  replace hp:=hp.drew
  ((conv=>whnf);repeat' ((first|((with_reducible refine ar_id ?_);(refine ar_i64 (by omega) ?_))|((with_reducible refine cn_id ?_);first|(refine cn rfl ?_)|(refine cn (Chg.refl _ _) ?_))|((with_reducible refine ld_id ?_);(apply ld_hs hp;(focus repeat' constructor);exact rfl))|((with_reducible refine ldn_id ?_);(apply lda_hs hp;(focus repeat' constructor);exact rfl))|((with_reducible refine st_id ?_);(apply st_hs hp;(focus repeat' constructor);exact rfl;exact rfl;clear hp;intro w hp;(try dsimp only [List.set] at hp)))|((with_reducible refine gen_id ?_);first|((refine gen_bs rfl hp el_plc Plc.c [v] [Plc.v v] rfl rfl rfl (fun _ hh=>by simp at hh;subst hh;rfl) (by omega) ?_);clear hp;intro br w hp)|((refine gen_app (s:=idx l k) rfl hp 1 rfl el_plc rfl ⟨some ⟨br,0,none⟩,1, [v]⟩ rfl (hp.row (j:=0) rfl) (fun _ _=>rfl) plc_one (by simp only [List.length_cons,List.length_nil];omega) (by simp only [maxLen,List.length_cons,List.length_nil];omega) ?_);clear hp;intro A2 c2 w hp;dsimp only [List.set] at hp)|((refine gen_put rfl hp 5 rfl rfl idK Tryz.underlying254 k rfl (⟨A2,c2,(idx l k).l++ [v]⟩:Sl Plc) rfl ?_);clear hp;intro w hp;dsimp only [List.set] at hp))|((with_reducible refine fk_id ?_);(refine fk_mk ?_ ?_))|((with_reducible refine rd_id ?_);((refine rd_look rfl hp 4 rfl rfl idK Tryz.underlying254 (z:=Sl.nil) rfl k rfl ?_))))<;>(conv=>whnf)))
  all_goals
   have hp3:=idx_back (l':=mput l k ⟨A2,c2,(idx l k).l++ [v]⟩) (c:= [_,_]) hp.tail (hperm ⟨A2,c2,(idx l k).l++ [v]⟩)
   exact ps_val (v':= .bool true) rfl (.inr ⟨hv,rfl,⟨A2,c2,(idx l k).l++ [v]⟩,rfl,hp3.shut (List.sublist_append_right _ _)⟩)
end Go.Proofs.YteabebmlclgakaaGreat
/- HintIP3: an index: strikes. -/
namespace Go.Proofs.YteabebmlclgakaaGreat
open Go.RowKit
set_option maxRecDepth 100000
set_option maxHeartbeats 2000000
end Go.Proofs.YteabebmlclgakaaGreat
/- SixId: where a value stands first. -/
namespace Go.Proofs.YteabebmlclgakaaGreat
open Go.RowKit
set_option maxRecDepth 100000
set_option maxHeartbeats 2000000
end Go.Proofs.YteabebmlclgakaaGreat
