/- MPlanQuiet24: HintUK, HintUK2, HintUK3, Shelf. -/
import Derived.Test.YteabebmlclgakaaGreatMPlanQuiet14
import Derived.Test.YteabebmlclgakaaGreatMPlanQuiet23
import Derived.Test.YteabebmlclgakaaGreatMPlanQuiet7
set_option linter.unusedSimpArgs false
set_option linter.unusedVariables false
/- HintUK: an index of the package hints: uint32 to api.Key. -/
namespace Go.Proofs.YteabebmlclgakaaGreat
open Go.RowKit
set_option maxRecDepth 100000
set_option maxHeartbeats 2000000
abbrev iRsUK (b m:Nat) (l:List (UInt32×Sl Key)) (n:Int):List Res:=idxRs 265 42 2 u32 Key.c b m l n
theorem inoneUK {w0:World} {b m:Nat} (hc:w0.cell? ⟨b,0,none⟩=some (.map (some m))):Calls Tryz.prog 222 #[ptr b] w0 fun e w'=>e= .returned (.bool false)∧Chg N0 w0 w':=by
 have hp:=Hp.start (S:=N0) w0
 refine calls_x (args:= [_]) tabOk Tryz.func222 Tryz.ntmps222 Tryz.results222 rfl (Nat.le_of_ble_eq_true rfl) ?_
 ((conv=>whnf);repeat' ((first|((with_reducible refine br_id ?_);(with_reducible refine br_f ?_))|((with_reducible refine ld_id ?_);((refine ld_of (hp.chg.cell0 hc) ?_))))<;>(conv=>whnf)))
 exact ps_val (v':= .bool false) rfl ⟨rfl,hp.chg⟩
theorem inewUK {w0:World}:Calls Tryz.prog 109 #[] w0 fun e w'=>∃b m,e= .returned (ptr b)∧Made (star (iRsUK b m [] 0)) w0 w':=by
 have hp:=Hp.start (S:=N0) w0
 refine calls_x (args:= []) tabOk Tryz.func109 Tryz.ntmps109 Tryz.results109 rfl (Nat.le_of_ble_eq_true rfl) ?_
 ((conv=>whnf);repeat' ((first|((with_reducible refine al_id ?_);(refine al_cel hp ?_;clear hp;intro bb w hp))|((with_reducible refine gen_id ?_);first|((refine gen_mmake rfl u32 (Sl.v (α:=Key)) hp ?_);clear hp;intro bb w hp)|(apply gen_build;exact rfl;exact rfl)))<;>(conv=>whnf)))
 exact ps_of ⟨_,_,rfl,hp.made (.refl _)⟩
theorem iatUK {w0:World} {b m:Nat} {l:List (UInt32×Sl Key)} {n:Int} (h:IdxAt u32 Key.c 2 w0 b m l n) (k:UInt32) (hn:(idx l k).l.length≤1000000):Calls Tryz.prog 268 #[ptr b,u32 k] w0 fun e w'=>∃r:Sl Key,r.l=(idx l k).l∧e= .returned r.v∧Made (rowR 42 2 Key.c r) w0 w':=by
 have hp:=Hp.start (S:=N0) w0
 have hB:∀b,N0 b→w0.heap.size≤b:=fun _ hh=>hh.elim
 have hsa:=h.idx k
 obtain ⟨s,hs⟩:∃s,idx l k=s:=⟨_,rfl⟩
 rw [hs] at hn hsa ⊢
 refine calls_x (args:= [_,_]) tabOk Tryz.func268 Tryz.ntmps268 Tryz.results268 rfl (Nat.le_of_ble_eq_true rfl) ?_
 ((conv=>whnf);repeat' ((first|((with_reducible refine br_id ?_);(with_reducible refine br_f ?_))|((with_reducible refine ld_id ?_);((refine ld_of (hp.chg.cell0 h.c0) ?_)))|((with_reducible refine gen_id ?_);first|((refine gen_lookM rfl (h.map.keep0 hp.chg) rfl (u32_enc Tryz.underlying24) Tryz.underlying263 (z:=Sl.nil) rfl k rfl hs ?_))|((refine gen_app0 rfl hp el_key rfl s rfl (hsa.keep hp.chg hB) (fun _ _=>rfl) key_one (by omega) (by simp only [maxLen];omega) ?_);clear hp;intro A1 c1 w hcc hp))|((with_reducible refine cl_id ?_);((refine cl_eq ((inoneUK (hp.chg.cell0 h.c0))) rfl rfl ?_;rintro e w ⟨rfl,hcc⟩;replace hp:=hp.call0 hcc;refine ⟨_,rfl,?_⟩))))<;>(conv=>whnf)))
 exact ps_val (v':= .slice A1 s.l.length c1) rfl ⟨⟨A1,c1,s.l⟩,rfl,rfl,hp.made1 (j:=0) rfl⟩
theorem ieachUK {w0:World} (b:Nat) (k:UInt32):Calls Tryz.prog 247 #[ptr b,u32 k] w0 fun e w'=>∃b2 b3,e= .returned (.func (.func 267) #[] #[ptr b2,ptr b3])∧Made (star [cel b3 24 #[u32 k],cel b2 174 #[ptr b]]) w0 w':=by
 have hp:=Hp.start (S:=N0) w0
 refine calls_x (args:= [_,_]) tabOk Tryz.func247 Tryz.ntmps247 Tryz.results247 rfl (Nat.le_of_ble_eq_true rfl) ?_
 ((conv=>whnf);repeat' ((first|((with_reducible refine al_id ?_);(refine al_cel hp ?_;clear hp;intro bb w hp))|((with_reducible refine gen_id ?_);((refine gen_mkf rfl rfl ?_))))<;>(conv=>whnf)))
 exact ps_of ⟨_,_,rfl,hp.made (.refl _)⟩
abbrev iEachUK (b b2 b3:Nat) (k:UInt32):List Res:= [cel b3 24 #[u32 k],cel b2 174 #[ptr b]]
theorem iiterUK {w0:World} {b m b2 b3:Nat} {l:List (UInt32×Sl Key)} {n:Int} {k:UInt32} (h:(star (iRsUK b m l n)).ok w0) (h3:(cel b3 24 #[u32 k]).ok w0) (h2:(cel b2 174 #[ptr b]).ok w0) (hn:(idx l k).l.length≤1000000):
  Iter Tryz.prog (fun x=>(∃r∈iEachUK b b2 b3 k,r.dom x)∨(star (iRsUK b m l n)).dom x) 267 #[ptr b2,ptr b3] (fun v:Key=> #[Key.v v]) (idx l k).l w0:=by
 refine ⟨fun L R X r0 hR0 hR hdis hy=>?_⟩
 have hp:=Hp.start1 hR
 have hx2:¬r0.dom b2:=fun hh=>hdis _ hh (.inl ⟨_,List.mem_cons_of_mem _ (List.mem_cons_self ..),cel_dom.2 rfl⟩)
 have hx3:¬r0.dom b3:=fun hh=>hdis _ hh (.inl ⟨_,List.mem_cons_self ..,cel_dom.2 rfl⟩)
 have hxi:∀x,(star (iRsUK b m l n)).dom x→¬r0.dom x:=fun x hx hh=>hdis _ hh (.inr hx)
 obtain ⟨xs,hxs⟩:∃xs,(idx l k).l=xs:=⟨_,rfl⟩
 have hsat:=fun {w:World} (hc:Chg r0.dom w0 w)=>iatUK (idxAt ((star (iRsUK b m l n)).keep h hc hxi)) k hn
 rw [hxs] at hy hsat ⊢
 show Calls _ _ #[.func (.yield L) #[] #[],ptr b2,ptr b3] w0 _
 have us:=Tryz.underlying64
 refine calls_x (args:= [_,_,_]) tabOk Tryz.func267 Tryz.ntmps267 Tryz.results267 rfl (Nat.le_of_ble_eq_true rfl) ?_
 ((conv=>whnf);repeat' (((with_reducible refine ld_id ?_);first|((refine ld_of (hp.chg.cell (cell_of_heap (cel_ok.1 h2) rfl) hx2) ?_))|((refine ld_of (hp.chg.cell (cell_of_heap (cel_ok.1 h3) rfl) hx3) ?_)))<;>(conv=>whnf)))
 refine cl_eq (hsat hp.chg) rfl rfl ?_
 rintro e w ⟨r,hr,rfl,hm⟩
 replace hp:=hp.add hm
 clear hm
 refine ⟨_,rfl,?_⟩
 subst hr
 have hmax:r.l.length≤9223372036854775807:=by have:=(hp.row (j:=0) rfl).le;have:=(hp.row (j:=0) rfl).max;simp only [maxLen] at this;omega
 ((conv=>whnf);repeat' (((with_reducible refine gen_id ?_);(apply gen_len;exact rfl;exact rfl;assumption))<;>(conv=>whnf)))
 refine lp_inv (α:=Nat) (fun i=> [(0, .func (.yield L) #[] #[]),(8,r.v),(9,i64 r.l.length),(10,i64 i)]) (fun i w=>i≤r.l.length∧∃q,R i q∧Hp r0.dom w0 w [rowR 42 2 Key.c r,q]) (fun i=>r.l.length - i) 0 (by (repeat' (first|exact trivial|(refine ⟨rfl,?_⟩)))) ⟨by omega,r0,hR0,hp⟩ ?_
 clear hp
 rintro i e0 w ⟨hi,q,hq,hp⟩
 dsimp only at hi hp ⊢
 rcases Nat.lt_or_ge i r.l.length with hlt|hge
 ·obtain ⟨bb,oo,y,hA,hbb,hrow,hyy⟩:=(hp.row (j:=0) rfl).has hlt
  ((conv=>whnf);repeat' ((first|((with_reducible refine br_id ?_);((with_reducible refine br_dec (fun hx=>?_) (fun hx=>?_))<;>(try (exfalso;first|omega|contradiction))))|((with_reducible refine cn_id ?_);(refine cn rfl ?_))|((with_reducible refine ldn_id ?_);first|((refine ldn_ownx hp 0 rfl ‹_› _ rfl ‹_› rfl ?_))|(apply lda_hs hp;(focus repeat' constructor);exact rfl))|((with_reducible refine al_id ?_);(refine al_cel hp ?_;clear hp;intro bb w hp))|((with_reducible refine st_id ?_);(apply sta_hs hp;(focus repeat' constructor);exact rfl;exact rfl;clear hp;intro w hp;(try dsimp only [List.set] at hp)))|((with_reducible refine gen_id ?_);((refine gen_ixs rfl rfl ‹_› rfl rfl (by omega) ?_))))<;>(conv=>whnf)))
  refine yl_of (hy i y w q hq hyy (hp.shut1 (j:=2) rfl)) rfl ?_
  rintro e w (⟨rfl,q',hq',hm⟩|⟨rfl,q',hq',hm⟩)
  ·replace hp:=hp.via (j:=2) rfl hm
   dsimp only [List.set] at hp
   refine ⟨_,rfl,?_⟩
   ((conv=>whnf);repeat' ((first|((with_reducible refine br_id ?_);first|(with_reducible refine br_t ?_)|(with_reducible refine br_not ?_))|((with_reducible refine ar_id ?_);(refine ar_i64 (by omega) ?_)))<;>(conv=>whnf)))
   exact lp_next (i+1) (by show r.l.length - (i+1) < r.l.length - i;omega) (by (repeat' (first|exact trivial|(refine ⟨rfl,?_⟩)))) ⟨by show i+1≤_;omega,q',hq',hp.tail⟩
  ·replace hp:=hp.via (j:=2) rfl hm
   dsimp only [List.set] at hp
   refine ⟨_,rfl,?_⟩
   ((conv=>whnf);repeat' (((with_reducible refine br_id ?_);first|(with_reducible refine br_f ?_)|(with_reducible refine br_not ?_))<;>(conv=>whnf)))
   exact ps_of ⟨⟨_,rfl⟩, .inr ⟨i,q',hlt,hq',hp.shut1 (j:=2) rfl⟩⟩
 ·((conv=>whnf);repeat' (((with_reducible refine br_id ?_);((with_reducible refine br_dec (fun hx=>?_) (fun hx=>?_))<;>(try (exfalso;first|omega|contradiction))))<;>(conv=>whnf)))
  have:i=r.l.length:=by omega
  subst this
  exact ps_of ⟨⟨_,rfl⟩, .inl ⟨q,hq,hp.shut1 (j:=1) rfl⟩⟩
theorem ihasUK {w0:World} {b m:Nat} {l:List (UInt32×Sl Key)} {n:Int} (h:(star (iRsUK b m l n)).ok w0) (k:UInt32) (v:Key) (hn:(idx l k).l.length≤1000000):Calls Tryz.prog 223 #[ptr b,u32 k,Key.v v] w0 fun e w'=>e= .returned (.bool (decide (v∈(idx l k).l)))∧Chg N0 w0 w':=by
 have hp:=Hp.start (S:=N0) w0
 obtain ⟨xs,hxs⟩:∃xs,(idx l k).l=xs:=⟨_,rfl⟩
 refine calls_x (args:= [_,_,_]) tabOk Tryz.func223 Tryz.ntmps223 Tryz.results223 rfl (Nat.le_of_ble_eq_true rfl) ?_
 ((conv=>whnf);repeat' (((with_reducible refine al_id ?_);(refine al_cel hp ?_;clear hp;intro bb w hp))<;>(conv=>whnf)))
 rename_i b5 w5
 obtain ⟨rest,hp⟩:∃rest,Hp N0 w0 w (cel bb 4 #[.bool false]::cel b5 42 (Key.c v).toArray::rest):=⟨_,hp⟩
 obtain ⟨b6,hb6⟩:∃x,x=bb:=⟨_,rfl⟩
 subst hb6
 refine cl_eq (ieachUK b k) rfl rfl ?_
 rintro e w ⟨b2,b3,rfl,hm⟩
 replace hp:=(hp.add hm).unfold
 clear hm
 refine ⟨_,rfl,?_⟩
 ((conv=>whnf);repeat' ((first|((with_reducible refine br_id ?_);first|(with_reducible refine br_t ?_)|(with_reducible refine br_f ?_)|(with_reducible refine br_not ?_)|((with_reducible refine br_dec (fun hx=>?_) (fun hx=>?_))<;>(try (exfalso;first|omega|contradiction)))|((with_reducible refine br_eq (fun hx=>?_) (fun hx=>?_))<;>(try (exfalso;first|omega|contradiction)))|((with_reducible refine br_ne (fun hx=>?_) (fun hx=>?_))<;>(try (exfalso;first|omega|contradiction)))|((with_reducible refine br_s (fun hx=>?_) (fun hx=>?_))<;>(try (exfalso;first|omega|contradiction))))|((with_reducible refine ar_id ?_);first|(refine ar_i64 (by omega) ?_)|(refine ar_u32 (by omega) ?_)|(refine ar_u64 (by omega) ?_)|(refine ar_u8 (by omega) ?_))|((with_reducible refine cn_id ?_);first|(refine cn rfl ?_)|(refine cn ‹_› ?_)|(refine cn (by omega) ?_)|(refine cn (Chg.refl _ _) ?_))|((with_reducible refine ld_id ?_);first|(apply ld_hs hp;(focus repeat' constructor);exact rfl)|(refine ld_of ‹_› ?_))|((with_reducible refine ldn_id ?_);first|(apply lda_hs hp;(focus repeat' constructor);exact rfl)|(apply ldn_hs hp;(focus repeat' constructor);exact rfl;exact rfl))|((with_reducible refine al_id ?_);(refine al_cel hp ?_;clear hp;intro bb w hp))|((with_reducible refine st_id ?_);first|(apply sta_hs hp;(focus repeat' constructor);exact rfl;exact rfl;clear hp;intro w hp;(try dsimp only [List.set] at hp))|(apply st_hs hp;(focus repeat' constructor);exact rfl;exact rfl;clear hp;intro w hp;(try dsimp only [List.set] at hp)))|((with_reducible refine gen_id ?_);first|(apply gen_build;exact rfl;exact rfl)|(apply gen_len;exact rfl;exact rfl;assumption)|(apply gen_min;exact rfl;exact rfl;exact rfl)|(apply gen_max;exact rfl;exact rfl;exact rfl)|(apply gen_ix;exact rfl;exact rfl;exact rfl;exact rfl;omega)|(apply gen_ixa;exact rfl;exact rfl;exact rfl;exact rfl;omega))|((with_reducible refine dr_id ?_);first|(refine dr_auto tabOk (by kernel_rfl) (by decide+kernel) ?_;(try replace hp:=hp.drew))|(refine dr_autog tabOk (by kernel_rfl) (by decide+kernel) ?_;(try replace hp:=hp.drew))|(refine dr_autot tabOk (by kernel_rfl) (by decide+kernel) ?_;(try replace hp:=hp.drew)))|((with_reducible refine fk_id ?_);(refine fk_mk ?_ ?_))|((with_reducible refine bg_id ?_);first|((refine bg_hs hp 0 rfl ?_);clear hp;intro w hp;(try dsimp only [List.set] at hp))|((refine bg_hs hp 1 rfl ?_);clear hp;intro w hp;(try dsimp only [List.set] at hp))|((refine bg_hs hp 2 rfl ?_);clear hp;intro w hp;(try dsimp only [List.set] at hp))|((refine bg_hs hp 3 rfl ?_);clear hp;intro w hp;(try dsimp only [List.set] at hp))|((refine bg_hs hp 4 rfl ?_);clear hp;intro w hp;(try dsimp only [List.set] at hp))|((refine bg_hs hp 5 rfl ?_);clear hp;intro w hp;(try dsimp only [List.set] at hp)))|((with_reducible refine td_id ?_);first|((refine td_hs hp 0 rfl ?_);clear hp;intro w hp;(try dsimp only [List.set] at hp))|((refine td_hs hp 1 rfl ?_);clear hp;intro w hp;(try dsimp only [List.set] at hp))|((refine td_hs hp 2 rfl ?_);clear hp;intro w hp;(try dsimp only [List.set] at hp))|((refine td_hs hp 3 rfl ?_);clear hp;intro w hp;(try dsimp only [List.set] at hp))|((refine td_hs hp 4 rfl ?_);clear hp;intro w hp;(try dsimp only [List.set] at hp))|((refine td_hs hp 5 rfl ?_);clear hp;intro w hp;(try dsimp only [List.set] at hp))|((refine td_hs hp 6 rfl ?_);clear hp;intro w hp;(try dsimp only [List.set] at hp))|((refine td_hs hp 7 rfl ?_);clear hp;intro w hp;(try dsimp only [List.set] at hp)))|((with_reducible refine rd_id ?_);first|(apply rd_len;exact rfl;exact rfl;assumption)|(apply rd_ix;exact rfl;exact rfl;exact rfl;exact rfl;omega)))<;>(conv=>whnf)))
 have hst:(star (iRsUK b m l n)).ok w:=(star (iRsUK b m l n)).keep0 h hp.chg
 have hit:=fun (w1:World) (hc:Chg N0 w w1)=>iiterUK (k:=k) ((star (iRsUK b m l n)).keep0 hst hc) ((cel b3 24 #[u32 k]).keep0 (hp.get (j:=0) rfl) hc) ((cel b2 174 #[ptr b]).keep0 (hp.get (j:=1) rfl) hc) hn
 have hp2:=hp.tail.tail.sub (List.take_sublist 2 _)
 have hp3:Hp N0 w0 w (iEachUK b b2 b3 k++List.take 2 (cel b6 4 #[.bool false]::cel b5 42 (Key.c v).toArray::rest)):=hp.sub ((List.take_sublist 2 _).append_left (iEachUK b b2 b3 k))
 have hT:=iter_at (T:=(star (iRsUK b m l n)).dom) hp3 fun x hx=>⟨(star (iRsUK b m l n)).lt w0 h x hx,fun hh=>hh⟩
 rw [hxs] at hit ⊢
 refine rf_iter (es:=fun y=> [(11,Key.v y)]) (rsI:=fun i q=>(∀y∈xs.take i,y≠v)∧q= [cel b6 4 #[.bool false],cel b5 42 (Key.c v).toArray]) (rsX:=fun _ q=>v∈xs∧q= [cel b6 4 #[.bool true],cel b5 42 (Key.c v).toArray]) hp2 (by kernel_rfl) (by kernel_rfl) rfl (enters tabOk (by kernel_rfl)) (fun _=>rfl) (fun _=>zip1 _ _) hT hit ⟨by simp,rfl⟩ .ret ⟨_,rfl⟩ ?_ ?_ ?_
 ·clear hp hp2 hp3 hT hit
  rintro i y L D o o' W _ ⟨hno,rfl⟩ hy hc hown hp
  ((conv=>whnf);repeat' ((first|((with_reducible refine br_id ?_);((with_reducible refine br_s (fun hx=>?_) (fun hx=>?_))<;>(try (exfalso;first|omega|contradiction))))|((with_reducible refine cn_id ?_);(refine cn rfl ?_))|((with_reducible refine ldn_id ?_);(apply lda_hs hp;(focus repeat' constructor);exact rfl))|((with_reducible refine al_id ?_);(refine al_cel hp ?_;clear hp;intro bb w hp))|((with_reducible refine st_id ?_);(apply sta_hs hp;(focus repeat' constructor);exact rfl;exact rfl;clear hp;intro w hp;(try dsimp only [List.set] at hp)))|((with_reducible refine gen_id ?_);((refine gen_eqa rfl rfl rfl (eq_key y v) (by kernel_rfl) (.inl rfl) ?_)))|((with_reducible refine bg_id ?_);((refine bg_hs hp 1 rfl ?_);clear hp;intro w hp;(try dsimp only [List.set] at hp))))<;>(conv=>whnf)))
  ·have hx':y=v:=by simpa using hx
   exact bo ⟨rfl,_,⟨hx'▸List.mem_of_getElem? hy,rfl⟩,hp.tail⟩
  ·refine bo ⟨_,⟨fun z hz=>?_,rfl⟩,hp.tail⟩
   rw [List.take_add_one,hy] at hz
   rcases List.mem_append.1 hz with hz|hz
   ·exact hno z hz
   ·simp at hz
    subst hz
    have hx':¬z=v:=by simpa using hx
    exact hx'
 ·clear hp hp2 hp3 hT hit
  rintro L D o W _ ⟨hf,rfl⟩ hp
  rw [List.take_length] at hf
  ((conv=>whnf);repeat' ((first|((with_reducible refine cn_id ?_);(refine cn rfl ?_))|((with_reducible refine ld_id ?_);(apply ld_hs hp;(focus repeat' constructor);exact rfl))|((with_reducible refine st_id ?_);(apply sta_hs hp;(focus repeat' constructor);exact rfl;exact rfl;clear hp;intro w hp;(try dsimp only [List.set] at hp)))|((with_reducible refine td_id ?_);((refine td_hs hp 1 rfl ?_);clear hp;intro w hp;(try dsimp only [List.set] at hp))))<;>(conv=>whnf)))
  exact ps_val (v':= .bool false) rfl ⟨by rw [decide_eq_false fun hh=>hf v hh rfl],hp.chg⟩
 ·clear hp hp2 hp3 hT hit
  rintro i L D o W _ hi ⟨hf,rfl⟩ hp
  ((conv=>whnf);repeat' ((first|((with_reducible refine ld_id ?_);(apply ld_hs hp;(focus repeat' constructor);exact rfl))|((with_reducible refine td_id ?_);((refine td_hs hp 1 rfl ?_);clear hp;intro w hp;(try dsimp only [List.set] at hp))))<;>(conv=>whnf)))
  exact ps_val (v':= .bool true) rfl ⟨by rw [decide_eq_true hf],hp.chg⟩
end Go.Proofs.YteabebmlclgakaaGreat
/- HintUK2: an index: notes, strikes. -/
namespace Go.Proofs.YteabebmlclgakaaGreat
open Go.RowKit
set_option maxRecDepth 100000
set_option maxHeartbeats 2000000
theorem inoteUK {w0:World} {b m:Nat} {l:List (UInt32×Sl Key)} {n:Int} (h:(star (iRsUK b m l n)).ok w0) (k:UInt32) (v:Key) (hn:(idx l k).l.length≤100000) (hn2: -1000000≤n∧n≤1000000):Calls Tryz.prog 190 #[ptr b,u32 k,Key.v v] w0 fun e w'=>
  (v∈(idx l k).l∧e= .returned (.bool false)∧Chg N0 w0 w')∨(v∉(idx l k).l∧e= .returned (.bool true)∧∃s':Sl Key,s'.l=(idx l k).l++ [v]∧Mut (star (iRsUK b m l n)) (star (iRsUK b m (mput l k s') (n+1))) w0 w'):=by
 have hI:=idxAt h
 by_cases hv:v∈(idx l k).l
 ·have hp:=Hp.start (S:=N0) w0
  have hhas:∀{w:World},Chg N0 w0 w→Calls Tryz.prog 223 #[ptr b,u32 k,Key.v v] w fun e w'=>e= .returned (.bool true)∧Chg N0 w w':=fun hc=>by
   have:=ihasUK ((star (iRsUK b m l n)).keep0 h hc) k v (by omega)
   rwa [decide_eq_true hv] at this
  refine calls_x (args:= [_,_,_]) tabOk Tryz.func190 Tryz.ntmps190 Tryz.results190 rfl (Nat.le_of_ble_eq_true rfl) ?_
  ((conv=>whnf);repeat' ((first|((with_reducible refine br_id ?_);first|(with_reducible refine br_t ?_)|(with_reducible refine br_f ?_))|((with_reducible refine ldn_id ?_);(apply lda_hs hp;(focus repeat' constructor);exact rfl))|((with_reducible refine al_id ?_);(refine al_cel hp ?_;clear hp;intro bb w hp))|((with_reducible refine cl_id ?_);first|((refine cl_eq ((inoneUK (hp.chg.cell0 hI.c0))) rfl rfl ?_;rintro e w ⟨rfl,hcc⟩;replace hp:=hp.call0 hcc;refine ⟨_,rfl,?_⟩))|((refine cl_eq ((hhas hp.chg)) rfl rfl ?_;rintro e w ⟨rfl,hcc⟩;replace hp:=hp.call0 hcc;refine ⟨_,rfl,?_⟩))))<;>(conv=>whnf)))
  exact ps_val (v':= .bool false) rfl (.inl ⟨hv,rfl,hp.chg⟩)
 ·have hp:=Hp.open h
  have hhas:∀{w:World} {c:List Res},Hp (star (iRsUK b m l n)).dom w0 w (c++iRsUK b m l n)→Calls Tryz.prog 223 #[ptr b,u32 k,Key.v v] w fun e w'=>e= .returned (.bool false)∧Chg N0 w w':=fun {w c} hp=>by
   have h1:(star (iRsUK b m l n)).ok w:=(hp.sub (List.sublist_append_right c _)).fold1.get (j:=0) rfl
   have:=ihasUK h1 k v (by omega)
   rwa [decide_eq_false hv] at this
  skip
  refine calls_x (args:= [_,_,_]) tabOk Tryz.func190 Tryz.ntmps190 Tryz.results190 rfl (Nat.le_of_ble_eq_true rfl) ?_
  ((conv=>whnf);repeat' ((first|((with_reducible refine br_id ?_);first|(with_reducible refine br_f ?_)|((with_reducible refine br_ne (fun hx=>?_) (fun hx=>?_))<;>(try (exfalso;first|omega|contradiction))))|((with_reducible refine ldn_id ?_);(apply lda_hs hp;(focus repeat' constructor);exact rfl))|((with_reducible refine al_id ?_);(refine al_cel hp ?_;clear hp;intro bb w hp))|((with_reducible refine cl_id ?_);first|((refine cl_eq ((inoneUK (cell_of_heap (hp.cel_get (j:=1) rfl) rfl))) rfl rfl ?_;rintro e w ⟨rfl,hcc⟩;replace hp:=hp.call0 hcc;refine ⟨_,rfl,?_⟩))|((refine cl_eq ((hhas (c:= [_]) hp)) rfl rfl ?_;rintro e w ⟨rfl,hcc⟩;replace hp:=hp.call0 hcc;refine ⟨_,rfl,?_⟩))))<;>(conv=>whnf)))
  obtain ⟨rest,hp,hperm, -⟩:=idx_out (c:= [_]) k hp
  have hl1:=(hp.row (j:=0) rfl).le
  refine dr_autos [1,2,3,4] 13 tabOk (by kernel_rfl) (by decide+kernel) ?_
  replace hp:=hp.drew
  ((conv=>whnf);repeat' ((first|((with_reducible refine ar_id ?_);(refine ar_i64 (by omega) ?_))|((with_reducible refine cn_id ?_);first|(refine cn rfl ?_)|(refine cn (Chg.refl _ _) ?_))|((with_reducible refine ld_id ?_);(apply ld_hs hp;(focus repeat' constructor);exact rfl))|((with_reducible refine ldn_id ?_);(apply lda_hs hp;(focus repeat' constructor);exact rfl))|((with_reducible refine st_id ?_);(apply st_hs hp;(focus repeat' constructor);exact rfl;exact rfl;clear hp;intro w hp;(try dsimp only [List.set] at hp)))|((with_reducible refine gen_id ?_);first|((refine gen_bs rfl hp el_key Key.c [v] [Key.v v] rfl rfl rfl (fun _ hh=>by simp at hh;subst hh;rfl) (by omega) ?_);clear hp;intro br w hp)|((refine gen_app (s:=idx l k) rfl hp 1 rfl el_key rfl ⟨some ⟨br,0,none⟩,1, [v]⟩ rfl (hp.row (j:=0) rfl) (fun _ _=>rfl) key_one (by simp only [List.length_cons,List.length_nil];omega) (by simp only [maxLen,List.length_cons,List.length_nil];omega) ?_);clear hp;intro A2 c2 w hp;dsimp only [List.set] at hp)|((refine gen_put rfl hp 4 rfl rfl (u32_enc Tryz.underlying24) Tryz.underlying263 k rfl (⟨A2,c2,(idx l k).l++ [v]⟩:Sl Key) rfl ?_);clear hp;intro w hp;dsimp only [List.set] at hp))|((with_reducible refine fk_id ?_);(refine fk_mk ?_ ?_))|((with_reducible refine rd_id ?_);((refine rd_look rfl hp 3 rfl rfl (u32_enc Tryz.underlying24) Tryz.underlying263 (z:=Sl.nil) rfl k rfl ?_))))<;>(conv=>whnf)))
  all_goals
   have hp3:=idx_back (l':=mput l k ⟨A2,c2,(idx l k).l++ [v]⟩) (c:= [_]) hp.tail (hperm ⟨A2,c2,(idx l k).l++ [v]⟩)
   exact ps_val (v':= .bool true) rfl (.inr ⟨hv,rfl,⟨A2,c2,(idx l k).l++ [v]⟩,rfl,hp3.shut (List.sublist_append_right _ _)⟩)
end Go.Proofs.YteabebmlclgakaaGreat
/- HintUK3: an index: strikes. -/
namespace Go.Proofs.YteabebmlclgakaaGreat
open Go.RowKit
set_option maxRecDepth 100000
set_option maxHeartbeats 2000000
end Go.Proofs.YteabebmlclgakaaGreat
/- Shelf: blobs, entries, shelves; small contracts. No condition. -/
namespace Go.Proofs.YteabebmlclgakaaGreat
open Go.RowKit
set_option maxRecDepth 100000
set_option maxHeartbeats 2000000
structure Ent where
 blob:Blob
 place:Int
abbrev Ent.c (x:Ent):List Value:=(u32 x.blob.key.ses::u32 x.blob.key.seq::u8 x.blob.hint[0]::u8 x.blob.hint[1]::u8 x.blob.hint[2]::u8 x.blob.hint[3]::u8 x.blob.hint[4]::u8 x.blob.hint[5]::u8 x.blob.hint[6]::u8 x.blob.hint[7]::u8 x.blob.hint[8]::u8 x.blob.hint[9]::u8 x.blob.hint[10]::u8 x.blob.hint[11]::u8 x.blob.hint[12]::u8 x.blob.hint[13]::u8 x.blob.hint[14]::u8 x.blob.hint[15]::x.blob.data.v::i64 x.place:: [])
abbrev Ent.v (x:Ent):Value:= .agg (List.toArray (u32 x.blob.key.ses::u32 x.blob.key.seq::u8 x.blob.hint[0]::u8 x.blob.hint[1]::u8 x.blob.hint[2]::u8 x.blob.hint[3]::u8 x.blob.hint[4]::u8 x.blob.hint[5]::u8 x.blob.hint[6]::u8 x.blob.hint[7]::u8 x.blob.hint[8]::u8 x.blob.hint[9]::u8 x.blob.hint[10]::u8 x.blob.hint[11]::u8 x.blob.hint[12]::u8 x.blob.hint[13]::u8 x.blob.hint[14]::u8 x.blob.hint[15]::x.blob.data.v::i64 x.place:: []))
def Ent.z:Ent:=⟨Blob.z,0⟩
theorem fld_ent (x:Ent) (w:World):(Instr.field 209 x.v 0).run Tryz.prog w= .ok x.blob.v w:=by kernel_rfl
theorem fld_hint (x:Blob) (w:World):(Instr.field 40 x.v 2).run Tryz.prog w= .ok x.hint.v w:=by kernel_rfl
theorem rd_fld {P:Program} {ρ:Operand→Value} {o:Oper} {w:World} {g:Value→Prop} {t:TypeId} {x:Operand} {i:Nat} (hop:o.op= .field t x i) {v0 v:Value} (hx:ρ x=v0) (h:∀w,(Instr.field t v0 i).run P w= .ok v w) (hk:g v):Rd P ρ o w g:=by
 refine ⟨v,fun w' _=>?_,hk⟩
 simp [execOp,hop,hx,h]
structure Shf where
 hb:Nat
 hm:Nat
 lh:List (Hint×Sl Key)
 nh:Int
 mb:Nat
 mm:Nat
 lm:List (UInt32×Sl Key)
 nm:Int
 am:Nat
 la:List (Key×Ent)
 next:Int
 bytes:Int
abbrev shC (g:Shf):Array Value:= #[ptr g.hb,ptr g.mb, .map (some g.am),i64 g.next,i64 g.bytes]
abbrev entR (p:Key×Ent):Res:=rowR 5 1 u8L p.2.blob.data
abbrev shRs (b:Nat) (g:Shf):List Res:=cel b 178 (shC g)::star (iRsHK g.hb g.hm g.lh g.nh)::star (iRsUK g.mb g.mm g.lm g.nm)::mapR Key.v Ent.v g.am g.la::g.la.map entR
theorem shown_any {B:Nat} {w0:World} (x:Blob) (h:SlAt B w0 u8L 1 x.data) (hn:x.data.l.length≤1000000):Calls Tryz.prog 140 #[x.v] w0 fun e w'=>∃r:Bytes,r.l=x.data.l∧e= .returned (Blob.v {x with data:=r})∧Made (rowR 5 1 u8L r) w0 w':=by
 have hp:=Hp.start (S:=N0) w0
 have hB:∀b,N0 b→B≤b:=fun _ hh=>hh.elim
 refine calls_x (args:= [_]) tabOk Tryz.func140 Tryz.ntmps140 Tryz.results140 rfl (Nat.le_of_ble_eq_true rfl) ?_
 ((conv=>whnf);repeat' ((first|((with_reducible refine cn_id ?_);(refine cn rfl ?_))|((with_reducible refine ld_id ?_);(apply ld_hs hp;(focus repeat' constructor);exact rfl))|((with_reducible refine ldn_id ?_);(apply lda_hs hp;(focus repeat' constructor);exact rfl))|((with_reducible refine al_id ?_);(refine al_cel hp ?_;clear hp;intro bb w hp))|((with_reducible refine st_id ?_);first|(apply sta_hs hp;(focus repeat' constructor);exact rfl;exact rfl;clear hp;intro w hp;(try dsimp only [List.set] at hp))|(apply st_hs hp;(focus repeat' constructor);exact rfl;exact rfl;clear hp;intro w hp;(try dsimp only [List.set] at hp)))|((with_reducible refine gen_id ?_);((refine gen_app0 rfl hp el_u8 rfl x.data rfl (h.keep hp.chg hB) (fun _ _=>rfl) u8_one (by omega) (by simp only [maxLen];omega) ?_);clear hp;intro A1 c1 w hcc hp)))<;>(conv=>whnf)))
 exact ps_val (v':=Blob.v {x with data:=⟨A1,c1,x.data.l⟩}) rfl ⟨⟨A1,c1,x.data.l⟩,rfl,rfl,hp.made1 (j:=0) rfl⟩
theorem shnone_any {w0:World} {b m:Nat} (hc:w0.cell? ⟨b,2,none⟩=some (.map (some m))):Calls Tryz.prog 137 #[ptr b] w0 fun e w'=>e= .returned (.bool false)∧Chg N0 w0 w':=by
 have hp:=Hp.start (S:=N0) w0
 refine calls_x (args:= [_]) tabOk Tryz.func137 Tryz.ntmps137 Tryz.results137 rfl (Nat.le_of_ble_eq_true rfl) ?_
 ((conv=>whnf);repeat' ((first|((with_reducible refine br_id ?_);(with_reducible refine br_f ?_))|((with_reducible refine ld_id ?_);((refine ld_of (hp.chg.cell0 hc) ?_))))<;>(conv=>whnf)))
 exact ps_val (v':= .bool false) rfl ⟨rfl,hp.chg⟩
theorem shnew_any {w0:World}:Calls Tryz.prog 64 #[] w0 fun e w'=>∃b hb hm mb mm am,e= .returned (ptr b)∧Made (star (shRs b ⟨hb,hm, [],0,mb,mm, [],0,am, [],0,0⟩)) w0 w':=by
 have hp:=Hp.start (S:=N0) w0
 refine calls_x (args:= []) tabOk Tryz.func64 Tryz.ntmps64 Tryz.results64 rfl (Nat.le_of_ble_eq_true rfl) ?_
 ((conv=>whnf);repeat' ((first|((with_reducible refine br_id ?_);first|(with_reducible refine br_t ?_)|(with_reducible refine br_f ?_)|(with_reducible refine br_not ?_)|((with_reducible refine br_dec (fun hx=>?_) (fun hx=>?_))<;>(try (exfalso;first|omega|contradiction)))|((with_reducible refine br_eq (fun hx=>?_) (fun hx=>?_))<;>(try (exfalso;first|omega|contradiction)))|((with_reducible refine br_ne (fun hx=>?_) (fun hx=>?_))<;>(try (exfalso;first|omega|contradiction)))|((with_reducible refine br_s (fun hx=>?_) (fun hx=>?_))<;>(try (exfalso;first|omega|contradiction))))|((with_reducible refine ar_id ?_);first|(refine ar_i64 (by omega) ?_)|(refine ar_u32 (by omega) ?_)|(refine ar_u64 (by omega) ?_)|(refine ar_u8 (by omega) ?_))|((with_reducible refine cn_id ?_);first|(refine cn rfl ?_)|(refine cn ‹_› ?_)|(refine cn (by omega) ?_)|(refine cn (Chg.refl _ _) ?_))|((with_reducible refine ld_id ?_);first|(apply ld_hs hp;(focus repeat' constructor);exact rfl)|(refine ld_of ‹_› ?_))|((with_reducible refine ldn_id ?_);first|(apply lda_hs hp;(focus repeat' constructor);exact rfl)|(apply ldn_hs hp;(focus repeat' constructor);exact rfl;exact rfl))|((with_reducible refine al_id ?_);(refine al_cel hp ?_;clear hp;intro bb w hp))|((with_reducible refine st_id ?_);first|(apply sta_hs hp;(focus repeat' constructor);exact rfl;exact rfl;clear hp;intro w hp;(try dsimp only [List.set] at hp))|(apply st_hs hp;(focus repeat' constructor);exact rfl;exact rfl;clear hp;intro w hp;(try dsimp only [List.set] at hp)))|((with_reducible refine gen_id ?_);first|(apply gen_build;exact rfl;exact rfl)|(apply gen_len;exact rfl;exact rfl;assumption)|(apply gen_min;exact rfl;exact rfl;exact rfl)|(apply gen_max;exact rfl;exact rfl;exact rfl)|(apply gen_ix;exact rfl;exact rfl;exact rfl;exact rfl;omega)|(apply gen_ixa;exact rfl;exact rfl;exact rfl;exact rfl;omega))|((with_reducible refine dr_id ?_);first|(refine dr_auto tabOk (by kernel_rfl) (by decide+kernel) ?_;(try replace hp:=hp.drew))|(refine dr_autog tabOk (by kernel_rfl) (by decide+kernel) ?_;(try replace hp:=hp.drew))|(refine dr_autot tabOk (by kernel_rfl) (by decide+kernel) ?_;(try replace hp:=hp.drew)))|((with_reducible refine fk_id ?_);(refine fk_mk ?_ ?_))|((with_reducible refine rd_id ?_);first|(apply rd_len;exact rfl;exact rfl;assumption)|(apply rd_ix;exact rfl;exact rfl;exact rfl;exact rfl;omega)))<;>(conv=>whnf)))
 refine cl_of inewHK ?_
 rintro e w ⟨hb,hm,rfl,hmd⟩
 replace hp:=hp.add hmd
 clear hmd
 refine ⟨_,rfl,?_⟩
 ((conv=>whnf);repeat' ((first|((with_reducible refine br_id ?_);first|(with_reducible refine br_t ?_)|(with_reducible refine br_f ?_)|(with_reducible refine br_not ?_)|((with_reducible refine br_dec (fun hx=>?_) (fun hx=>?_))<;>(try (exfalso;first|omega|contradiction)))|((with_reducible refine br_eq (fun hx=>?_) (fun hx=>?_))<;>(try (exfalso;first|omega|contradiction)))|((with_reducible refine br_ne (fun hx=>?_) (fun hx=>?_))<;>(try (exfalso;first|omega|contradiction)))|((with_reducible refine br_s (fun hx=>?_) (fun hx=>?_))<;>(try (exfalso;first|omega|contradiction))))|((with_reducible refine ar_id ?_);first|(refine ar_i64 (by omega) ?_)|(refine ar_u32 (by omega) ?_)|(refine ar_u64 (by omega) ?_)|(refine ar_u8 (by omega) ?_))|((with_reducible refine cn_id ?_);first|(refine cn rfl ?_)|(refine cn ‹_› ?_)|(refine cn (by omega) ?_)|(refine cn (Chg.refl _ _) ?_))|((with_reducible refine ld_id ?_);first|(apply ld_hs hp;(focus repeat' constructor);exact rfl)|(refine ld_of ‹_› ?_))|((with_reducible refine ldn_id ?_);first|(apply lda_hs hp;(focus repeat' constructor);exact rfl)|(apply ldn_hs hp;(focus repeat' constructor);exact rfl;exact rfl))|((with_reducible refine al_id ?_);(refine al_cel hp ?_;clear hp;intro bb w hp))|((with_reducible refine st_id ?_);first|(apply sta_hs hp;(focus repeat' constructor);exact rfl;exact rfl;clear hp;intro w hp;(try dsimp only [List.set] at hp))|(apply st_hs hp;(focus repeat' constructor);exact rfl;exact rfl;clear hp;intro w hp;(try dsimp only [List.set] at hp)))|((with_reducible refine gen_id ?_);first|(apply gen_build;exact rfl;exact rfl)|(apply gen_len;exact rfl;exact rfl;assumption)|(apply gen_min;exact rfl;exact rfl;exact rfl)|(apply gen_max;exact rfl;exact rfl;exact rfl)|(apply gen_ix;exact rfl;exact rfl;exact rfl;exact rfl;omega)|(apply gen_ixa;exact rfl;exact rfl;exact rfl;exact rfl;omega))|((with_reducible refine dr_id ?_);first|(refine dr_auto tabOk (by kernel_rfl) (by decide+kernel) ?_;(try replace hp:=hp.drew))|(refine dr_autog tabOk (by kernel_rfl) (by decide+kernel) ?_;(try replace hp:=hp.drew))|(refine dr_autot tabOk (by kernel_rfl) (by decide+kernel) ?_;(try replace hp:=hp.drew)))|((with_reducible refine fk_id ?_);(refine fk_mk ?_ ?_))|((with_reducible refine rd_id ?_);first|(apply rd_len;exact rfl;exact rfl;assumption)|(apply rd_ix;exact rfl;exact rfl;exact rfl;exact rfl;omega)))<;>(conv=>whnf)))
 refine cl_of inewUK ?_
 rintro e w ⟨mb,mm,rfl,hmd⟩
 replace hp:=hp.add hmd
 clear hmd
 refine ⟨_,rfl,?_⟩
 ((conv=>whnf);repeat' ((first|((with_reducible refine al_id ?_);(refine al_cel hp ?_;clear hp;intro bb w hp))|((with_reducible refine gen_id ?_);first|((refine gen_mmake rfl Key.v Ent.v hp ?_);clear hp;intro am w hp)|(apply gen_build;exact rfl;exact rfl)))<;>(conv=>whnf)))
 exact ps_val (v':=ptr bb) rfl ⟨bb,hb,hm,mb,mm,am,rfl,(hp.perm (.cons _ (perm321 ..))).made (.refl _)⟩
def byKey (W:List BlP) (k:Key):Option BlP:=W.find? fun y=>decide (y.key=k)
structure ShI (g:Shf) (W:List BlP):Prop where
 nodup:(W.map (·.key)).Nodup
 hints:∀h,(idx g.lh h).l=(W.filter fun y=>decide (y.hint=h)).map (·.key)
 mine:∀s,(idx g.lm s).l=(W.filter fun y=>decide (y.key.ses=s)).map (·.key)
 all:∀k,(mlk g.la k).map (·.blob.p)=byKey W k
 len:g.la.length=W.length
 nh:g.nh=W.length
 nm:g.nm=W.length
 bytes:g.bytes=((W.map (·.bytes.length)).sum:Nat)
 data:∀y∈W,y.bytes.length≤600
 many:W.length≤10000
 next:0≤g.next∧g.next≤100000
 ord:∃pl:Key→Int,(∀k e,mlk g.la k=some e→e.place=pl k)∧W.Pairwise (fun x y=>pl x.key < pl y.key)∧∀y∈W,0≤pl y.key∧pl y.key < g.next
end Go.Proofs.YteabebmlclgakaaGreat
