/- MPlanQuiet23: HintHK, SixKey, HintHK2, HintHK3. -/
import Derived.Test.YteabebmlclgakaaGreatMPlanQuiet14
set_option linter.unusedSimpArgs false
set_option linter.unusedVariables false
/- HintHK: an index of the package hints: api.Hint to api.Key. -/
namespace Go.Proofs.YteabebmlclgakaaGreat
open Go.RowKit
set_option maxRecDepth 100000
set_option maxHeartbeats 2000000
abbrev iRsHK (b m:Nat) (l:List (Hint×Sl Key)) (n:Int):List Res:=idxRs 262 42 2 Hint.v Key.c b m l n
theorem inoneHK {w0:World} {b m:Nat} (hc:w0.cell? ⟨b,0,none⟩=some (.map (some m))):Calls Tryz.prog 220 #[ptr b] w0 fun e w'=>e= .returned (.bool false)∧Chg N0 w0 w':=by
 have hp:=Hp.start (S:=N0) w0
 refine calls_x (args:= [_]) tabOk Tryz.func220 Tryz.ntmps220 Tryz.results220 rfl (Nat.le_of_ble_eq_true rfl) ?_
 ((conv=>whnf);repeat' ((first|((with_reducible refine br_id ?_);(with_reducible refine br_f ?_))|((with_reducible refine ld_id ?_);((refine ld_of (hp.chg.cell0 hc) ?_))))<;>(conv=>whnf)))
 exact ps_val (v':= .bool false) rfl ⟨rfl,hp.chg⟩
theorem inewHK {w0:World}:Calls Tryz.prog 108 #[] w0 fun e w'=>∃b m,e= .returned (ptr b)∧Made (star (iRsHK b m [] 0)) w0 w':=by
 have hp:=Hp.start (S:=N0) w0
 refine calls_x (args:= []) tabOk Tryz.func108 Tryz.ntmps108 Tryz.results108 rfl (Nat.le_of_ble_eq_true rfl) ?_
 ((conv=>whnf);repeat' ((first|((with_reducible refine al_id ?_);(refine al_cel hp ?_;clear hp;intro bb w hp))|((with_reducible refine gen_id ?_);first|((refine gen_mmake rfl Hint.v (Sl.v (α:=Key)) hp ?_);clear hp;intro bb w hp)|(apply gen_build;exact rfl;exact rfl)))<;>(conv=>whnf)))
 exact ps_of ⟨_,_,rfl,hp.made (.refl _)⟩
theorem iatHK {w0:World} {b m:Nat} {l:List (Hint×Sl Key)} {n:Int} (h:IdxAt Hint.v Key.c 2 w0 b m l n) (k:Hint) (hn:(idx l k).l.length≤1000000):Calls Tryz.prog 266 #[ptr b,Hint.v k] w0 fun e w'=>∃r:Sl Key,r.l=(idx l k).l∧e= .returned r.v∧Made (rowR 42 2 Key.c r) w0 w':=by
 have hp:=Hp.start (S:=N0) w0
 have hB:∀b,N0 b→w0.heap.size≤b:=fun _ hh=>hh.elim
 have hsa:=h.idx k
 obtain ⟨s,hs⟩:∃s,idx l k=s:=⟨_,rfl⟩
 rw [hs] at hn hsa ⊢
 refine calls_x (args:= [_,_]) tabOk Tryz.func266 Tryz.ntmps266 Tryz.results266 rfl (Nat.le_of_ble_eq_true rfl) ?_
 ((conv=>whnf);repeat' ((first|((with_reducible refine br_id ?_);(with_reducible refine br_f ?_))|((with_reducible refine ld_id ?_);((refine ld_of (hp.chg.cell0 h.c0) ?_)))|((with_reducible refine ldn_id ?_);(apply lda_hs hp;(focus repeat' constructor);exact rfl))|((with_reducible refine al_id ?_);(refine al_cel hp ?_;clear hp;intro bb w hp))|((with_reducible refine gen_id ?_);((refine gen_app0 rfl hp el_key rfl s rfl (hsa.keep hp.chg hB) (fun _ _=>rfl) key_one (by omega) (by simp only [maxLen];omega) ?_);clear hp;intro A1 c1 w hcc hp))|((with_reducible refine dr_id ?_);(refine dr_auto tabOk (by kernel_rfl) (by decide+kernel) ?_;(try replace hp:=hp.drew)))|((with_reducible refine cl_id ?_);((refine cl_eq ((inoneHK (hp.chg.cell0 h.c0))) rfl rfl ?_;rintro e w ⟨rfl,hcc⟩;replace hp:=hp.call0 hcc;refine ⟨_,rfl,?_⟩)))|((with_reducible refine rd_id ?_);((refine rd_lookM rfl (h.map.keep0 hp.chg) rfl hintK Tryz.underlying260 (z:=Sl.nil) rfl k rfl hs ?_))))<;>(conv=>whnf)))
 exact ps_val (v':= .slice A1 s.l.length c1) rfl ⟨⟨A1,c1,s.l⟩,rfl,rfl,hp.made1 (j:=0) rfl⟩
theorem ieachHK {w0:World} (b:Nat) (k:Hint):Calls Tryz.prog 246 #[ptr b,Hint.v k] w0 fun e w'=>∃b2 b3,e= .returned (.func (.func 265) #[] #[ptr b2,ptr b3])∧Made (star [cel b3 37 (Hint.c k).toArray,cel b2 172 #[ptr b]]) w0 w':=by
 have hp:=Hp.start (S:=N0) w0
 refine calls_x (args:= [_,_]) tabOk Tryz.func246 Tryz.ntmps246 Tryz.results246 rfl (Nat.le_of_ble_eq_true rfl) ?_
 ((conv=>whnf);repeat' ((first|((with_reducible refine al_id ?_);(refine al_cel hp ?_;clear hp;intro bb w hp))|((with_reducible refine gen_id ?_);((refine gen_mkf rfl rfl ?_))))<;>(conv=>whnf)))
 exact ps_of ⟨_,_,rfl,hp.made (.refl _)⟩
abbrev iEachHK (b b2 b3:Nat) (k:Hint):List Res:= [cel b3 37 (Hint.c k).toArray,cel b2 172 #[ptr b]]
theorem iiterHK {w0:World} {b m b2 b3:Nat} {l:List (Hint×Sl Key)} {n:Int} {k:Hint} (h:(star (iRsHK b m l n)).ok w0) (h3:(cel b3 37 (Hint.c k).toArray).ok w0) (h2:(cel b2 172 #[ptr b]).ok w0) (hn:(idx l k).l.length≤1000000):
  Iter Tryz.prog (fun x=>(∃r∈iEachHK b b2 b3 k,r.dom x)∨(star (iRsHK b m l n)).dom x) 265 #[ptr b2,ptr b3] (fun v:Key=> #[Key.v v]) (idx l k).l w0:=by
 refine ⟨fun L R X r0 hR0 hR hdis hy=>?_⟩
 have hp:=Hp.start1 hR
 have hx2:¬r0.dom b2:=fun hh=>hdis _ hh (.inl ⟨_,List.mem_cons_of_mem _ (List.mem_cons_self ..),cel_dom.2 rfl⟩)
 have hx3:¬r0.dom b3:=fun hh=>hdis _ hh (.inl ⟨_,List.mem_cons_self ..,cel_dom.2 rfl⟩)
 have hxi:∀x,(star (iRsHK b m l n)).dom x→¬r0.dom x:=fun x hx hh=>hdis _ hh (.inr hx)
 obtain ⟨xs,hxs⟩:∃xs,(idx l k).l=xs:=⟨_,rfl⟩
 have hsat:=fun {w:World} (hc:Chg r0.dom w0 w)=>iatHK (idxAt ((star (iRsHK b m l n)).keep h hc hxi)) k hn
 rw [hxs] at hy hsat ⊢
 show Calls _ _ #[.func (.yield L) #[] #[],ptr b2,ptr b3] w0 _
 have us:=Tryz.underlying64
 refine calls_x (args:= [_,_,_]) tabOk Tryz.func265 Tryz.ntmps265 Tryz.results265 rfl (Nat.le_of_ble_eq_true rfl) ?_
 ((conv=>whnf);repeat' ((first|((with_reducible refine ld_id ?_);((refine ld_of (hp.chg.cell (cell_of_heap (cel_ok.1 h2) rfl) hx2) ?_)))|((with_reducible refine ldn_id ?_);((refine ldn_heap (hp.chg.heap (cel_ok.1 h3) hx3) rfl ?_))))<;>(conv=>whnf)))
 refine cl_eq (hsat hp.chg) rfl rfl ?_
 rintro e w ⟨r,hr,rfl,hm⟩
 replace hp:=hp.add hm
 clear hm
 refine ⟨_,rfl,?_⟩
 subst hr
 have hmax:r.l.length≤9223372036854775807:=by have:=(hp.row (j:=0) rfl).le;have:=(hp.row (j:=0) rfl).max;simp only [maxLen] at this;omega
 ((conv=>whnf);repeat' (((with_reducible refine gen_id ?_);(apply gen_len;exact rfl;exact rfl;assumption))<;>(conv=>whnf)))
 refine lp_inv (α:=Nat) (fun i=> [(0, .func (.yield L) #[] #[]),(8,r.v),(9,i64 r.l.length),(10,i64 i)]) (fun i w=>i≤r.l.length∧∃q,R i q∧Hp r0.dom w0 w [rowR 42 2 Key.c r,q]) (fun i=>r.l.length - i) 0 (by (repeat' (first|exact trivial|(refine ⟨rfl,?_⟩)))) ⟨by omega,r0,hR0,hp⟩ ?_
 clear hp
 rintro i e0 w ⟨hi,q,hq,hp⟩
 dsimp only at hi hp ⊢
 rcases Nat.lt_or_ge i r.l.length with hlt|hge
 ·obtain ⟨bb,oo,y,hA,hbb,hrow,hyy⟩:=(hp.row (j:=0) rfl).has hlt
  ((conv=>whnf);repeat' ((first|((with_reducible refine br_id ?_);((with_reducible refine br_dec (fun hx=>?_) (fun hx=>?_))<;>(try (exfalso;first|omega|contradiction))))|((with_reducible refine cn_id ?_);(refine cn rfl ?_))|((with_reducible refine ldn_id ?_);first|((refine ldn_ownx hp 0 rfl ‹_› _ rfl ‹_› rfl ?_))|(apply lda_hs hp;(focus repeat' constructor);exact rfl))|((with_reducible refine al_id ?_);(refine al_cel hp ?_;clear hp;intro bb w hp))|((with_reducible refine st_id ?_);(apply sta_hs hp;(focus repeat' constructor);exact rfl;exact rfl;clear hp;intro w hp;(try dsimp only [List.set] at hp)))|((with_reducible refine gen_id ?_);((refine gen_ixs rfl rfl ‹_› rfl rfl (by omega) ?_))))<;>(conv=>whnf)))
  refine yl_of (hy i y w q hq hyy (hp.shut1 (j:=2) rfl)) rfl ?_
  rintro e w (⟨rfl,q',hq',hm⟩|⟨rfl,q',hq',hm⟩)
  ·replace hp:=hp.via (j:=2) rfl hm
   dsimp only [List.set] at hp
   refine ⟨_,rfl,?_⟩
   ((conv=>whnf);repeat' ((first|((with_reducible refine br_id ?_);first|(with_reducible refine br_t ?_)|(with_reducible refine br_not ?_))|((with_reducible refine ar_id ?_);(refine ar_i64 (by omega) ?_)))<;>(conv=>whnf)))
   exact lp_next (i+1) (by show r.l.length - (i+1) < r.l.length - i;omega) (by (repeat' (first|exact trivial|(refine ⟨rfl,?_⟩)))) ⟨by show i+1≤_;omega,q',hq',hp.tail⟩
  ·replace hp:=hp.via (j:=2) rfl hm
   dsimp only [List.set] at hp
   refine ⟨_,rfl,?_⟩
   ((conv=>whnf);repeat' (((with_reducible refine br_id ?_);first|(with_reducible refine br_f ?_)|(with_reducible refine br_not ?_))<;>(conv=>whnf)))
   exact ps_of ⟨⟨_,rfl⟩, .inr ⟨i,q',hlt,hq',hp.shut1 (j:=2) rfl⟩⟩
 ·((conv=>whnf);repeat' (((with_reducible refine br_id ?_);((with_reducible refine br_dec (fun hx=>?_) (fun hx=>?_))<;>(try (exfalso;first|omega|contradiction))))<;>(conv=>whnf)))
  have:i=r.l.length:=by omega
  subst this
  exact ps_of ⟨⟨_,rfl⟩, .inl ⟨q,hq,hp.shut1 (j:=1) rfl⟩⟩
theorem ihasHK {w0:World} {b m:Nat} {l:List (Hint×Sl Key)} {n:Int} (h:(star (iRsHK b m l n)).ok w0) (k:Hint) (v:Key) (hn:(idx l k).l.length≤1000000):Calls Tryz.prog 221 #[ptr b,Hint.v k,Key.v v] w0 fun e w'=>e= .returned (.bool (decide (v∈(idx l k).l)))∧Chg N0 w0 w':=by
 have hp:=Hp.start (S:=N0) w0
 obtain ⟨xs,hxs⟩:∃xs,(idx l k).l=xs:=⟨_,rfl⟩
 refine calls_x (args:= [_,_,_]) tabOk Tryz.func221 Tryz.ntmps221 Tryz.results221 rfl (Nat.le_of_ble_eq_true rfl) ?_
 ((conv=>whnf);repeat' ((first|((with_reducible refine ldn_id ?_);(apply lda_hs hp;(focus repeat' constructor);exact rfl))|((with_reducible refine al_id ?_);(refine al_cel hp ?_;clear hp;intro bb w hp)))<;>(conv=>whnf)))
 rename_i b5 w5
 obtain ⟨rest,hp⟩:∃rest,Hp N0 w0 w (cel bb 4 #[.bool false]::cel b5 42 (Key.c v).toArray::rest):=⟨_,hp⟩
 obtain ⟨b6,hb6⟩:∃x,x=bb:=⟨_,rfl⟩
 subst hb6
 refine cl_eq (ieachHK b k) rfl rfl ?_
 rintro e w ⟨b2,b3,rfl,hm⟩
 replace hp:=(hp.add hm).unfold
 clear hm
 refine ⟨_,rfl,?_⟩
 ((conv=>whnf);repeat' ((first|((with_reducible refine br_id ?_);first|(with_reducible refine br_t ?_)|(with_reducible refine br_f ?_)|(with_reducible refine br_not ?_)|((with_reducible refine br_dec (fun hx=>?_) (fun hx=>?_))<;>(try (exfalso;first|omega|contradiction)))|((with_reducible refine br_eq (fun hx=>?_) (fun hx=>?_))<;>(try (exfalso;first|omega|contradiction)))|((with_reducible refine br_ne (fun hx=>?_) (fun hx=>?_))<;>(try (exfalso;first|omega|contradiction)))|((with_reducible refine br_s (fun hx=>?_) (fun hx=>?_))<;>(try (exfalso;first|omega|contradiction))))|((with_reducible refine ar_id ?_);first|(refine ar_i64 (by omega) ?_)|(refine ar_u32 (by omega) ?_)|(refine ar_u64 (by omega) ?_)|(refine ar_u8 (by omega) ?_))|((with_reducible refine cn_id ?_);first|(refine cn rfl ?_)|(refine cn ‹_› ?_)|(refine cn (by omega) ?_)|(refine cn (Chg.refl _ _) ?_))|((with_reducible refine ld_id ?_);first|(apply ld_hs hp;(focus repeat' constructor);exact rfl)|(refine ld_of ‹_› ?_))|((with_reducible refine ldn_id ?_);first|(apply lda_hs hp;(focus repeat' constructor);exact rfl)|(apply ldn_hs hp;(focus repeat' constructor);exact rfl;exact rfl))|((with_reducible refine al_id ?_);(refine al_cel hp ?_;clear hp;intro bb w hp))|((with_reducible refine st_id ?_);first|(apply sta_hs hp;(focus repeat' constructor);exact rfl;exact rfl;clear hp;intro w hp;(try dsimp only [List.set] at hp))|(apply st_hs hp;(focus repeat' constructor);exact rfl;exact rfl;clear hp;intro w hp;(try dsimp only [List.set] at hp)))|((with_reducible refine gen_id ?_);first|(apply gen_build;exact rfl;exact rfl)|(apply gen_len;exact rfl;exact rfl;assumption)|(apply gen_min;exact rfl;exact rfl;exact rfl)|(apply gen_max;exact rfl;exact rfl;exact rfl)|(apply gen_ix;exact rfl;exact rfl;exact rfl;exact rfl;omega)|(apply gen_ixa;exact rfl;exact rfl;exact rfl;exact rfl;omega))|((with_reducible refine dr_id ?_);first|(refine dr_auto tabOk (by kernel_rfl) (by decide+kernel) ?_;(try replace hp:=hp.drew))|(refine dr_autog tabOk (by kernel_rfl) (by decide+kernel) ?_;(try replace hp:=hp.drew))|(refine dr_autot tabOk (by kernel_rfl) (by decide+kernel) ?_;(try replace hp:=hp.drew)))|((with_reducible refine fk_id ?_);(refine fk_mk ?_ ?_))|((with_reducible refine bg_id ?_);first|((refine bg_hs hp 0 rfl ?_);clear hp;intro w hp;(try dsimp only [List.set] at hp))|((refine bg_hs hp 1 rfl ?_);clear hp;intro w hp;(try dsimp only [List.set] at hp))|((refine bg_hs hp 2 rfl ?_);clear hp;intro w hp;(try dsimp only [List.set] at hp))|((refine bg_hs hp 3 rfl ?_);clear hp;intro w hp;(try dsimp only [List.set] at hp))|((refine bg_hs hp 4 rfl ?_);clear hp;intro w hp;(try dsimp only [List.set] at hp))|((refine bg_hs hp 5 rfl ?_);clear hp;intro w hp;(try dsimp only [List.set] at hp)))|((with_reducible refine td_id ?_);first|((refine td_hs hp 0 rfl ?_);clear hp;intro w hp;(try dsimp only [List.set] at hp))|((refine td_hs hp 1 rfl ?_);clear hp;intro w hp;(try dsimp only [List.set] at hp))|((refine td_hs hp 2 rfl ?_);clear hp;intro w hp;(try dsimp only [List.set] at hp))|((refine td_hs hp 3 rfl ?_);clear hp;intro w hp;(try dsimp only [List.set] at hp))|((refine td_hs hp 4 rfl ?_);clear hp;intro w hp;(try dsimp only [List.set] at hp))|((refine td_hs hp 5 rfl ?_);clear hp;intro w hp;(try dsimp only [List.set] at hp))|((refine td_hs hp 6 rfl ?_);clear hp;intro w hp;(try dsimp only [List.set] at hp))|((refine td_hs hp 7 rfl ?_);clear hp;intro w hp;(try dsimp only [List.set] at hp)))|((with_reducible refine rd_id ?_);first|(apply rd_len;exact rfl;exact rfl;assumption)|(apply rd_ix;exact rfl;exact rfl;exact rfl;exact rfl;omega)))<;>(conv=>whnf)))
 have hst:(star (iRsHK b m l n)).ok w:=(star (iRsHK b m l n)).keep0 h hp.chg
 have hit:=fun (w1:World) (hc:Chg N0 w w1)=>iiterHK (k:=k) ((star (iRsHK b m l n)).keep0 hst hc) ((cel b3 37 (Hint.c k).toArray).keep0 (hp.get (j:=0) rfl) hc) ((cel b2 172 #[ptr b]).keep0 (hp.get (j:=1) rfl) hc) hn
 have hp2:=hp.tail.tail.sub (List.take_sublist 2 _)
 have hp3:Hp N0 w0 w (iEachHK b b2 b3 k++List.take 2 (cel b6 4 #[.bool false]::cel b5 42 (Key.c v).toArray::rest)):=hp.sub ((List.take_sublist 2 _).append_left (iEachHK b b2 b3 k))
 have hT:=iter_at (T:=(star (iRsHK b m l n)).dom) hp3 fun x hx=>⟨(star (iRsHK b m l n)).lt w0 h x hx,fun hh=>hh⟩
 rw [hxs] at hit ⊢
 refine rf_iter (es:=fun y=> [(11,Key.v y)]) (rsI:=fun i q=>(∀y∈xs.take i,y≠v)∧q= [cel b6 4 #[.bool false],cel b5 42 (Key.c v).toArray]) (rsX:=fun _ q=>v∈xs∧q= [cel b6 4 #[.bool true],cel b5 42 (Key.c v).toArray]) hp2 (by kernel_rfl) (by kernel_rfl) rfl (enters tabOk (by kernel_rfl)) (fun _=>rfl) (fun _=>zip1 _ _) hT hit ⟨by simp,rfl⟩ .ret ⟨_,rfl⟩ ?_ ?_ ?_
 ·clear hp hp2 hp3 hT hit
  rintro i y L D o o' W _ ⟨hno,rfl⟩ hy hc hown hp
  ((conv=>whnf);repeat' ((first|((with_reducible refine br_id ?_);((with_reducible refine br_s (fun hx=>?_) (fun hx=>?_))<;>(try (exfalso;first|omega|contradiction))))|((with_reducible refine cn_id ?_);(refine cn rfl ?_))|((with_reducible refine ldn_id ?_);(apply lda_hs hp;(focus repeat' constructor);exact rfl))|((with_reducible refine al_id ?_);(refine al_cel hp ?_;clear hp;intro bb w hp))|((with_reducible refine st_id ?_);(apply sta_hs hp;(focus repeat' constructor);exact rfl;exact rfl;clear hp;intro w hp;(try dsimp only [List.set] at hp)))|((with_reducible refine gen_id ?_);((refine gen_eqa rfl rfl rfl (eq_key y v) (by kernel_rfl) (.inl rfl) ?_)))|((with_reducible refine bg_id ?_);((refine bg_hs hp 1 rfl ?_);clear hp;intro w hp;(try dsimp only [List.set] at hp))))<;>(conv=>whnf)))
  ·have hx':y=v:=by simpa using hx
   exact bo ⟨rfl,_,⟨hx'▸List.mem_of_getElem? hy,rfl⟩,hp.tail⟩
  ·refine bo ⟨_,⟨fun z hz=>?_,rfl⟩,hp.tail⟩
   rw [List.take_add_one,hy] at hz
   rcases List.mem_append.1 hz with hz|hz
   ·exact hno z hz
   ·simp at hz
    subst hz
    have hx':¬z=v:=by simpa using hx
    exact hx'
 ·clear hp hp2 hp3 hT hit
  rintro L D o W _ ⟨hf,rfl⟩ hp
  rw [List.take_length] at hf
  ((conv=>whnf);repeat' ((first|((with_reducible refine cn_id ?_);(refine cn rfl ?_))|((with_reducible refine ld_id ?_);(apply ld_hs hp;(focus repeat' constructor);exact rfl))|((with_reducible refine st_id ?_);(apply sta_hs hp;(focus repeat' constructor);exact rfl;exact rfl;clear hp;intro w hp;(try dsimp only [List.set] at hp)))|((with_reducible refine td_id ?_);((refine td_hs hp 1 rfl ?_);clear hp;intro w hp;(try dsimp only [List.set] at hp))))<;>(conv=>whnf)))
  exact ps_val (v':= .bool false) rfl ⟨by rw [decide_eq_false fun hh=>hf v hh rfl],hp.chg⟩
 ·clear hp hp2 hp3 hT hit
  rintro i L D o W _ hi ⟨hf,rfl⟩ hp
  ((conv=>whnf);repeat' ((first|((with_reducible refine ld_id ?_);(apply ld_hs hp;(focus repeat' constructor);exact rfl))|((with_reducible refine td_id ?_);((refine td_hs hp 1 rfl ?_);clear hp;intro w hp;(try dsimp only [List.set] at hp))))<;>(conv=>whnf)))
  exact ps_val (v':= .bool true) rfl ⟨by rw [decide_eq_true hf],hp.chg⟩
end Go.Proofs.YteabebmlclgakaaGreat
/- SixKey: where a value stands first. -/
namespace Go.Proofs.YteabebmlclgakaaGreat
open Go.RowKit
set_option maxRecDepth 100000
set_option maxHeartbeats 2000000
theorem sixKey {B:Nat} {w0:World} {s:Sl Key} (h:SlAt B w0 Key.c 2 s) (v:Key):Calls Tryz.prog 224 #[s.v,Key.v v] w0 fun e w'=>e= .returned (i64 (if v∈s.l then ((s.l.idxOf v:Nat):Int) else -1))∧Chg N0 w0 w':=by
 have hp:=Hp.start (S:=N0) w0
 have hB:∀b,N0 b→B≤b:=fun _ hh=>hh.elim
 have us:=Tryz.underlying64
 have hmax:s.l.length≤9223372036854775807:=by have:=h.le;have:=h.max;simp only [maxLen] at this;omega
 refine calls_x (args:= [_,_]) tabOk Tryz.func224 Tryz.ntmps224 Tryz.results224 rfl (Nat.le_of_ble_eq_true rfl) ?_
 ((conv=>whnf);repeat' ((first|((with_reducible refine al_id ?_);(refine al_cel hp ?_;clear hp;intro bb w hp))|((with_reducible refine gen_id ?_);(apply gen_len;exact rfl;exact rfl;assumption)))<;>(conv=>whnf)))
 obtain ⟨b3,hb3⟩:∃x,x=bb:=⟨_,rfl⟩
 subst hb3
 refine lp_inv (α:=Nat) (fun i=> [(0,s.v),(3,ptr b3),(7,i64 s.l.length),(8,i64 i)]) (fun i w=>i≤s.l.length∧(∀y∈s.l.take i,y≠v)∧Hp N0 w0 w [cel b3 42 (Key.c v).toArray]) (fun i=>s.l.length - i) 0 (by (repeat' (first|exact trivial|(refine ⟨rfl,?_⟩)))) ⟨by omega,by simp,hp⟩ ?_
 clear hp
 rintro i e0 w ⟨hi,hno,hp⟩
 dsimp only at hi hno hp ⊢
 rcases Nat.lt_or_ge i s.l.length with hlt|hge
 ·obtain ⟨bb,oo,y,hA,hbb,hrow,hyy⟩:=h.has hlt
  by_cases hyv:v=y
  ·subst hyv
   have hq:EqIs Tryz.prog 42 (Key.v v) (Key.v v) true:=by have:=eq_key v v;rwa [decide_eq_true rfl] at this
   have hix:s.l.idxOf v=i:=idxOf_at hyy hno
   have hbt:(if BinOp.eql=BinOp.eql then true else !true)=true:=rfl
   ((conv=>whnf);repeat' ((first|((with_reducible refine br_id ?_);first|((with_reducible refine br_1 hbt ?_))|((with_reducible refine br_dec (fun hx=>?_) (fun hx=>?_))<;>(try (exfalso;first|omega|contradiction))))|((with_reducible refine ldn_id ?_);first|((refine ldn_rowx hp hB ‹_› ‹_› _ rfl ‹_› rfl ?_))|(apply lda_hs hp;(focus repeat' constructor);exact rfl))|((with_reducible refine dr_id ?_);(refine dr_auto tabOk (by kernel_rfl) (by decide+kernel) ?_;(try replace hp:=hp.drew)))|((with_reducible refine rd_id ?_);first|((refine rd_ixs rfl rfl ‹_› rfl rfl (by omega) ?_))|((refine rd_eqa rfl rfl rfl hq (by kernel_rfl) (.inl rfl) ?_))))<;>(conv=>whnf)))
   exact ps_val (v':=i64 i) rfl ⟨by rw [if_pos (List.mem_of_getElem? hyy),hix],hp.chg⟩
  ·have hq:EqIs Tryz.prog 42 (Key.v v) (Key.v y) false:=by have:=eq_key v y;rwa [decide_eq_false hyv] at this
   have hbf:(if BinOp.eql=BinOp.eql then false else !false)=false:=rfl
   ((conv=>whnf);repeat' ((first|((with_reducible refine br_id ?_);first|((with_reducible refine br_0 hbf ?_))|((with_reducible refine br_dec (fun hx=>?_) (fun hx=>?_))<;>(try (exfalso;first|omega|contradiction))))|((with_reducible refine ar_id ?_);(refine ar_i64 (by omega) ?_))|((with_reducible refine ldn_id ?_);first|((refine ldn_rowx hp hB ‹_› ‹_› _ rfl ‹_› rfl ?_))|(apply lda_hs hp;(focus repeat' constructor);exact rfl))|((with_reducible refine dr_id ?_);(refine dr_auto tabOk (by kernel_rfl) (by decide+kernel) ?_;(try replace hp:=hp.drew)))|((with_reducible refine rd_id ?_);first|((refine rd_ixs rfl rfl ‹_› rfl rfl (by omega) ?_))|((refine rd_eqa rfl rfl rfl hq (by kernel_rfl) (.inl rfl) ?_))))<;>(conv=>whnf)))
   refine lp_next (i+1) (by show s.l.length - (i+1) < s.l.length - i;omega) (by (repeat' (first|exact trivial|(refine ⟨rfl,?_⟩)))) ⟨by show i+1≤_;omega,fun z hz=>?_,hp⟩
   rw [List.take_add_one,hyy] at hz
   rcases List.mem_append.1 hz with hz|hz
   ·exact hno z hz
   ·simp at hz
    subst hz
    exact fun e=>hyv e.symm
 ·((conv=>whnf);repeat' (((with_reducible refine br_id ?_);((with_reducible refine br_dec (fun hx=>?_) (fun hx=>?_))<;>(try (exfalso;first|omega|contradiction))))<;>(conv=>whnf)))
  have hno':v∉s.l:=fun hm=>hno v (by rwa [List.take_of_length_le hge]) rfl
  exact ps_val (v':=i64 (-1)) rfl ⟨by rw [if_neg hno'],hp.chg⟩
end Go.Proofs.YteabebmlclgakaaGreat
/- HintHK2: an index: notes, strikes. -/
namespace Go.Proofs.YteabebmlclgakaaGreat
open Go.RowKit
set_option maxRecDepth 100000
set_option maxHeartbeats 2000000
theorem inoteHK {w0:World} {b m:Nat} {l:List (Hint×Sl Key)} {n:Int} (h:(star (iRsHK b m l n)).ok w0) (k:Hint) (v:Key) (hn:(idx l k).l.length≤100000) (hn2: -1000000≤n∧n≤1000000):Calls Tryz.prog 189 #[ptr b,Hint.v k,Key.v v] w0 fun e w'=>
  (v∈(idx l k).l∧e= .returned (.bool false)∧Chg N0 w0 w')∨(v∉(idx l k).l∧e= .returned (.bool true)∧∃s':Sl Key,s'.l=(idx l k).l++ [v]∧Mut (star (iRsHK b m l n)) (star (iRsHK b m (mput l k s') (n+1))) w0 w'):=by
 have hI:=idxAt h
 by_cases hv:v∈(idx l k).l
 ·have hp:=Hp.start (S:=N0) w0
  have hhas:∀{w:World},Chg N0 w0 w→Calls Tryz.prog 221 #[ptr b,Hint.v k,Key.v v] w fun e w'=>e= .returned (.bool true)∧Chg N0 w w':=fun hc=>by
   have:=ihasHK ((star (iRsHK b m l n)).keep0 h hc) k v (by omega)
   rwa [decide_eq_true hv] at this
  refine calls_x (args:= [_,_,_]) tabOk Tryz.func189 Tryz.ntmps189 Tryz.results189 rfl (Nat.le_of_ble_eq_true rfl) ?_
  ((conv=>whnf);repeat' ((first|((with_reducible refine br_id ?_);first|(with_reducible refine br_t ?_)|(with_reducible refine br_f ?_))|((with_reducible refine ldn_id ?_);(apply lda_hs hp;(focus repeat' constructor);exact rfl))|((with_reducible refine al_id ?_);(refine al_cel hp ?_;clear hp;intro bb w hp))|((with_reducible refine cl_id ?_);first|((refine cl_eq ((inoneHK (hp.chg.cell0 hI.c0))) rfl rfl ?_;rintro e w ⟨rfl,hcc⟩;replace hp:=hp.call0 hcc;refine ⟨_,rfl,?_⟩))|((refine cl_eq ((hhas hp.chg)) rfl rfl ?_;rintro e w ⟨rfl,hcc⟩;replace hp:=hp.call0 hcc;refine ⟨_,rfl,?_⟩))))<;>(conv=>whnf)))
  exact ps_val (v':= .bool false) rfl (.inl ⟨hv,rfl,hp.chg⟩)
 ·have hp:=Hp.open h
  have hhas:∀{w:World} {c:List Res},Hp (star (iRsHK b m l n)).dom w0 w (c++iRsHK b m l n)→Calls Tryz.prog 221 #[ptr b,Hint.v k,Key.v v] w fun e w'=>e= .returned (.bool false)∧Chg N0 w w':=fun {w c} hp=>by
   have h1:(star (iRsHK b m l n)).ok w:=(hp.sub (List.sublist_append_right c _)).fold1.get (j:=0) rfl
   have:=ihasHK h1 k v (by omega)
   rwa [decide_eq_false hv] at this
  have hkk:EqIs Tryz.prog 37 (Hint.v k) (Hint.v k) true:=by have:=eq_hint k k;rwa [decide_eq_true rfl] at this
  have hbn:(if BinOp.neq=BinOp.eql then true else !true)=false:=rfl
  refine calls_x (args:= [_,_,_]) tabOk Tryz.func189 Tryz.ntmps189 Tryz.results189 rfl (Nat.le_of_ble_eq_true rfl) ?_
  ((conv=>whnf);repeat' ((first|((with_reducible refine br_id ?_);first|((with_reducible refine br_0 hbn ?_))|(with_reducible refine br_f ?_))|((with_reducible refine ldn_id ?_);(apply lda_hs hp;(focus repeat' constructor);exact rfl))|((with_reducible refine al_id ?_);(refine al_cel hp ?_;clear hp;intro bb w hp))|((with_reducible refine gen_id ?_);((refine gen_eqa rfl rfl rfl hkk (by kernel_rfl) (.inr rfl) ?_)))|((with_reducible refine cl_id ?_);first|((refine cl_eq ((inoneHK (cell_of_heap (hp.cel_get (j:=2) rfl) rfl))) rfl rfl ?_;rintro e w ⟨rfl,hcc⟩;replace hp:=hp.call0 hcc;refine ⟨_,rfl,?_⟩))|((refine cl_eq ((hhas (c:= [_,_]) hp)) rfl rfl ?_;rintro e w ⟨rfl,hcc⟩;replace hp:=hp.call0 hcc;refine ⟨_,rfl,?_⟩))))<;>(conv=>whnf)))
  obtain ⟨rest,hp,hperm, -⟩:=idx_out (c:= [_,_]) k hp
  have hl1:=(hp.row (j:=0) rfl).le
  refine dr_autos [1,2,3,4] 13 tabOk (by kernel_rfl) (by decide+kernel) ?_
  replace hp:=hp.drew
  ((conv=>whnf);repeat' ((first|((with_reducible refine ar_id ?_);(refine ar_i64 (by omega) ?_))|((with_reducible refine cn_id ?_);first|(refine cn rfl ?_)|(refine cn (Chg.refl _ _) ?_))|((with_reducible refine ld_id ?_);(apply ld_hs hp;(focus repeat' constructor);exact rfl))|((with_reducible refine ldn_id ?_);(apply lda_hs hp;(focus repeat' constructor);exact rfl))|((with_reducible refine st_id ?_);(apply st_hs hp;(focus repeat' constructor);exact rfl;exact rfl;clear hp;intro w hp;(try dsimp only [List.set] at hp)))|((with_reducible refine gen_id ?_);first|((refine gen_bs rfl hp el_key Key.c [v] [Key.v v] rfl rfl rfl (fun _ hh=>by simp at hh;subst hh;rfl) (by omega) ?_);clear hp;intro br w hp)|((refine gen_app (s:=idx l k) rfl hp 1 rfl el_key rfl ⟨some ⟨br,0,none⟩,1, [v]⟩ rfl (hp.row (j:=0) rfl) (fun _ _=>rfl) key_one (by simp only [List.length_cons,List.length_nil];omega) (by simp only [maxLen,List.length_cons,List.length_nil];omega) ?_);clear hp;intro A2 c2 w hp;dsimp only [List.set] at hp)|((refine gen_put rfl hp 5 rfl rfl hintK Tryz.underlying260 k rfl (⟨A2,c2,(idx l k).l++ [v]⟩:Sl Key) rfl ?_);clear hp;intro w hp;dsimp only [List.set] at hp))|((with_reducible refine fk_id ?_);(refine fk_mk ?_ ?_))|((with_reducible refine rd_id ?_);((refine rd_look rfl hp 4 rfl rfl hintK Tryz.underlying260 (z:=Sl.nil) rfl k rfl ?_))))<;>(conv=>whnf)))
  all_goals
   have hp3:=idx_back (l':=mput l k ⟨A2,c2,(idx l k).l++ [v]⟩) (c:= [_,_]) hp.tail (hperm ⟨A2,c2,(idx l k).l++ [v]⟩)
   exact ps_val (v':= .bool true) rfl (.inr ⟨hv,rfl,⟨A2,c2,(idx l k).l++ [v]⟩,rfl,hp3.shut (List.sublist_append_right _ _)⟩)
end Go.Proofs.YteabebmlclgakaaGreat
/- HintHK3: an index: strikes. -/
namespace Go.Proofs.YteabebmlclgakaaGreat
open Go.RowKit
set_option maxRecDepth 100000
set_option maxHeartbeats 2000000
theorem istrikeHK {w0:World} {b m:Nat} {l:List (Hint×Sl Key)} {n:Int} (h:(star (iRsHK b m l n)).ok w0) (k:Hint) (v:Key) (hn:(idx l k).l.length≤100000) (hn2: -1000000≤n∧n≤1000000):Calls Tryz.prog 191 #[ptr b,Hint.v k,Key.v v] w0 fun e w'=>
  (v∉(idx l k).l∧e= .returned (.bool false)∧Chg N0 w0 w')∨(v∈(idx l k).l∧e= .returned (.bool true)∧∃l',(∀x,(idx l' x).l=if x=k then (idx l k).l.erase v else (idx l x).l)∧Mut (star (iRsHK b m l n)) (star (iRsHK b m l' (n - 1))) w0 w'):=by
 by_cases hv:v∈(idx l k).l
 ·have hp:=Hp.open h
  have us:=Tryz.underlying64
  have hhas:∀{w:World} {c:List Res},Hp (star (iRsHK b m l n)).dom w0 w (c++iRsHK b m l n)→Calls Tryz.prog 221 #[ptr b,Hint.v k,Key.v v] w fun e w'=>e= .returned (.bool true)∧Chg N0 w w':=fun {w c} hp=>by
   have h1:(star (iRsHK b m l n)).ok w:=(hp.sub (List.sublist_append_right c _)).fold1.get (j:=0) rfl
   have:=ihasHK h1 k v (by omega)
   rwa [decide_eq_true hv] at this
  have hsix:∀{w:World},SlAt w.heap.size w Key.c 2 (idx l k)→Calls Tryz.prog 224 #[(idx l k).v,Key.v v] w fun e w'=>e= .returned (i64 ((idx l k).l.idxOf v:Nat))∧Chg N0 w w':=fun hs=>by
   have:=sixKey hs v
   rwa [if_pos hv] at this
  have hlt:(idx l k).l.idxOf v < (idx l k).l.length:=List.idxOf_lt_length_of_mem hv
  obtain ⟨a,ha⟩:∃a,(idx l k).l.idxOf v=a:=⟨_,rfl⟩
  rw [ha] at hlt hsix
  refine calls_x (args:= [_,_,_]) tabOk Tryz.func191 Tryz.ntmps191 Tryz.results191 rfl (Nat.le_of_ble_eq_true rfl) ?_
  ((conv=>whnf);repeat' ((first|((with_reducible refine br_id ?_);first|(with_reducible refine br_t ?_)|(with_reducible refine br_not ?_))|((with_reducible refine ldn_id ?_);(apply lda_hs hp;(focus repeat' constructor);exact rfl))|((with_reducible refine al_id ?_);(refine al_cel hp ?_;clear hp;intro bb w hp))|((with_reducible refine cl_id ?_);((refine cl_eq ((hhas (c:= [_,_]) hp)) rfl rfl ?_;rintro e w ⟨rfl,hcc⟩;replace hp:=hp.call0 hcc;refine ⟨_,rfl,?_⟩))))<;>(conv=>whnf)))
  obtain ⟨rest,hp,hperm,hrest⟩:=idx_out (c:= [_,_]) k hp
  have hle:=(hp.row (j:=0) rfl).le
  by_cases hlen:(idx l k).l.length=1
  ·have hlen':=hlen
   unfold idx at hlen'
   ((conv=>whnf);repeat' ((first|((with_reducible refine br_id ?_);((with_reducible refine br_eq (fun hx=>?_) (fun hx=>?_))<;>(try (exfalso;first|omega|contradiction))))|((with_reducible refine ar_id ?_);(refine ar_i64 (by omega) ?_))|((with_reducible refine cn_id ?_);(refine cn rfl ?_))|((with_reducible refine ld_id ?_);(apply ld_hs hp;(focus repeat' constructor);exact rfl))|((with_reducible refine ldn_id ?_);(apply lda_hs hp;(focus repeat' constructor);exact rfl))|((with_reducible refine st_id ?_);(apply st_hs hp;(focus repeat' constructor);exact rfl;exact rfl;clear hp;intro w hp;(try dsimp only [List.set] at hp)))|((with_reducible refine gen_id ?_);first|((refine gen_del rfl hp 4 rfl rfl hintK Tryz.underlying260 k rfl ?_);clear hp;intro w hp;dsimp only [List.set] at hp)|(apply gen_len;exact rfl;exact rfl;assumption))|((with_reducible refine dr_id ?_);(refine dr_auto tabOk (by kernel_rfl) (by decide+kernel) ?_;(try replace hp:=hp.drew)))|((with_reducible refine cl_id ?_);((refine cl_eq ((hsix (hp.row (j:=0) rfl))) rfl rfl ?_;rintro e w ⟨rfl,hcc⟩;replace hp:=hp.call0 hcc;refine ⟨_,rfl,?_⟩)))|((with_reducible refine rd_id ?_);((refine rd_look rfl hp 4 rfl rfl hintK Tryz.underlying260 (z:=Sl.nil) rfl k rfl ?_))))<;>(conv=>whnf)))
   subst hrest
   refine ps_val (v':= .bool true) rfl (.inr ⟨hv,rfl,mdel l k,fun x=>?_,(hp.tail.sub (List.sublist_append_right [_,_] _)).shut (.refl _)⟩)
   rw [idx_mdel]
   by_cases hx:x=k
   ·rw [if_pos hx,if_pos hx]
    exact (erase_one hv hlen).symm
   ·rw [if_neg hx,if_neg hx]
  ·have hlen':=hlen
   unfold idx at hlen'
   have hc0:(0:Nat)≤a:=Nat.zero_le _
   have hal:a≤(idx l k).l.length:=Nat.le_of_lt hlt
   have hl1:((idx l k).cut 2 0 a).l.length=a:=by rw [Sl.cut_len hal];omega
   have hl2:((idx l k).cut 2 (a+1) (idx l k).l.length).l.length≤100000:=by rw [Sl.cut_len (Nat.le_refl _)];omega
   ((conv=>whnf);repeat' ((first|((with_reducible refine br_id ?_);first|(with_reducible refine br_t ?_)|(with_reducible refine br_f ?_)|(with_reducible refine br_not ?_)|((with_reducible refine br_dec (fun hx=>?_) (fun hx=>?_))<;>(try (exfalso;first|omega|contradiction)))|((with_reducible refine br_eq (fun hx=>?_) (fun hx=>?_))<;>(try (exfalso;first|omega|contradiction)))|((with_reducible refine br_ne (fun hx=>?_) (fun hx=>?_))<;>(try (exfalso;first|omega|contradiction)))|((with_reducible refine br_s (fun hx=>?_) (fun hx=>?_))<;>(try (exfalso;first|omega|contradiction))))|((with_reducible refine ar_id ?_);first|(refine ar_i64 (by omega) ?_)|(refine ar_u32 (by omega) ?_)|(refine ar_u64 (by omega) ?_)|(refine ar_u8 (by omega) ?_))|((with_reducible refine cn_id ?_);first|(refine cn rfl ?_)|(refine cn ‹_› ?_)|(refine cn (by omega) ?_)|(refine cn (Chg.refl _ _) ?_))|((with_reducible refine ld_id ?_);first|(apply ld_hs hp;(focus repeat' constructor);exact rfl)|(refine ld_of ‹_› ?_))|((with_reducible refine ldn_id ?_);first|(apply lda_hs hp;(focus repeat' constructor);exact rfl)|(apply ldn_hs hp;(focus repeat' constructor);exact rfl;exact rfl))|((with_reducible refine al_id ?_);(refine al_cel hp ?_;clear hp;intro bb w hp))|((with_reducible refine st_id ?_);first|(apply sta_hs hp;(focus repeat' constructor);exact rfl;exact rfl;clear hp;intro w hp;(try dsimp only [List.set] at hp))|(apply st_hs hp;(focus repeat' constructor);exact rfl;exact rfl;clear hp;intro w hp;(try dsimp only [List.set] at hp)))|((with_reducible refine gen_id ?_);first|((refine gen_look rfl hp 4 rfl rfl hintK Tryz.underlying260 (z:=Sl.nil) rfl k rfl ?_))|(apply gen_build;exact rfl;exact rfl)|(apply gen_len;exact rfl;exact rfl;assumption)|(apply gen_min;exact rfl;exact rfl;exact rfl)|(apply gen_max;exact rfl;exact rfl;exact rfl)|(apply gen_ix;exact rfl;exact rfl;exact rfl;exact rfl;omega)|(apply gen_ixa;exact rfl;exact rfl;exact rfl;exact rfl;omega))|((with_reducible refine fk_id ?_);(refine fk_mk ?_ ?_))|((with_reducible refine cl_id ?_);((refine cl_eq ((hsix (hp.row (j:=0) rfl))) rfl rfl ?_;rintro e w ⟨rfl,hcc⟩;replace hp:=hp.call0 hcc;refine ⟨_,rfl,?_⟩)))|((with_reducible refine rd_id ?_);first|(apply rd_len;exact rfl;exact rfl;assumption)|(apply rd_ix;exact rfl;exact rfl;exact rfl;exact rfl;omega)))<;>(conv=>whnf)))
   refine dr_auto tabOk (by kernel_rfl) (by decide+kernel) ?_
   replace hp:=hp.drew
   ((conv=>whnf);repeat' ((first|((with_reducible refine br_id ?_);((with_reducible refine br_eq (fun hx=>?_) (fun hx=>?_))<;>(try (exfalso;first|omega|contradiction))))|((with_reducible refine ar_id ?_);(refine ar_i64 (by omega) ?_))|((with_reducible refine cn_id ?_);(refine cn rfl ?_))|((with_reducible refine ld_id ?_);(apply ld_hs hp;(focus repeat' constructor);exact rfl))|((with_reducible refine ldn_id ?_);(apply lda_hs hp;(focus repeat' constructor);exact rfl))|((with_reducible refine st_id ?_);(apply st_hs hp;(focus repeat' constructor);exact rfl;exact rfl;clear hp;intro w hp;(try dsimp only [List.set] at hp)))|((with_reducible refine gen_id ?_);(apply gen_len;exact rfl;exact rfl;assumption))|((with_reducible refine cl_id ?_);((refine cl_eq ((hsix (hp.row (j:=0) rfl))) rfl rfl ?_;rintro e w ⟨rfl,hcc⟩;replace hp:=hp.call0 hcc;refine ⟨_,rfl,?_⟩)))|((with_reducible refine rd_id ?_);((refine rd_look rfl hp 4 rfl rfl hintK Tryz.underlying260 (z:=Sl.nil) rfl k rfl ?_))))<;>(conv=>whnf)))
   refine dr_autos [1,2,3,4] 13 tabOk (by kernel_rfl) (by decide+kernel) ?_
   replace hp:=hp.drew
   ((conv=>whnf);repeat' ((first|((with_reducible refine ar_id ?_);((refine ar_n (a+1) (by omega) (by omega) ?_)))|((with_reducible refine cn_id ?_);first|(refine cn ‹_› ?_)|(refine cn (Chg.refl _ _) ?_))|((with_reducible refine ld_id ?_);(apply ld_hs hp;(focus repeat' constructor);exact rfl))|((with_reducible refine ldn_id ?_);(apply lda_hs hp;(focus repeat' constructor);exact rfl))|((with_reducible refine gen_id ?_);first|((refine gen_app0 rfl hp el_key rfl ((idx l k).cut 2 0 a) rfl ((hp.row (j:=0) rfl).cut hc0 hal) (fun _ _=>rfl) key_one (by omega) (by simp only [maxLen];omega) ?_);clear hp;intro A1 c1 w hcc hp)|((refine gen_app (s:=⟨A1,c1,((idx l k).cut 2 0 a).l⟩) rfl hp 0 rfl el_key rfl ((idx l k).cut 2 (a+1) (idx l k).l.length) rfl ((hp.row (j:=1) rfl).cut hlt (Nat.le_refl _)) (fun _ _=>rfl) key_one (by show (((idx l k).cut 2 0 a).l.length+_)*_≤_;omega) (by show ((idx l k).cut 2 0 a).l.length+_≤_;simp only [maxLen];omega) ?_);clear hp;intro A2 c2 w hp;dsimp only [List.set] at hp)|((refine gen_put rfl hp 5 rfl rfl hintK Tryz.underlying260 k rfl (⟨A2,c2,((idx l k).cut 2 0 a).l++((idx l k).cut 2 (a+1) (idx l k).l.length).l⟩:Sl Key) rfl ?_);clear hp;intro w hp;dsimp only [List.set] at hp))|((with_reducible refine fk_id ?_);(refine fk_mk ?_ ?_))|((with_reducible refine rd_id ?_);first|((refine rd_cuth rfl el_key (idx l k) rfl hle rfl (h:=a) rfl hal ?_))|((refine rd_cutl rfl el_key (idx l k) rfl hle rfl (l:=a+1) rfl hlt ?_))))<;>(conv=>whnf)))
   all_goals
    obtain ⟨s',hs'⟩:∃s':Sl Key,s'=⟨A2,c2,((idx l k).cut 2 0 a).l++((idx l k).cut 2 (a+1) (idx l k).l.length).l⟩:=⟨_,rfl⟩
    rw [←hs'] at hp
    have hp3:=idx_back (l':=mput l k s') (c:= [_,_]) (hp.sub ((List.sublist_cons_self _ _).cons_cons _)) (hperm s')
    refine ps_val (v':= .bool true) rfl (.inr ⟨hv,rfl,mput l k s',fun x=>?_,hp3.shut (List.sublist_append_right _ _)⟩)
    rw [idx_mput]
    by_cases hx:x=k
    ·rw [if_pos hx,if_pos hx,hs']
     exact erase_cut ha
    ·rw [if_neg hx,if_neg hx]
 ·have hp:=Hp.start (S:=N0) w0
  have hhas:∀{w:World},Chg N0 w0 w→Calls Tryz.prog 221 #[ptr b,Hint.v k,Key.v v] w fun e w'=>e= .returned (.bool false)∧Chg N0 w w':=fun hc=>by
   have:=ihasHK ((star (iRsHK b m l n)).keep0 h hc) k v (by omega)
   rwa [decide_eq_false hv] at this
  refine calls_x (args:= [_,_,_]) tabOk Tryz.func191 Tryz.ntmps191 Tryz.results191 rfl (Nat.le_of_ble_eq_true rfl) ?_
  ((conv=>whnf);repeat' ((first|((with_reducible refine br_id ?_);first|(with_reducible refine br_f ?_)|(with_reducible refine br_not ?_))|((with_reducible refine ldn_id ?_);(apply lda_hs hp;(focus repeat' constructor);exact rfl))|((with_reducible refine al_id ?_);(refine al_cel hp ?_;clear hp;intro bb w hp))|((with_reducible refine cl_id ?_);((refine cl_eq ((hhas hp.chg)) rfl rfl ?_;rintro e w ⟨rfl,hcc⟩;replace hp:=hp.call0 hcc;refine ⟨_,rfl,?_⟩))))<;>(conv=>whnf)))
  exact ps_val (v':= .bool false) rfl (.inl ⟨hv,rfl,hp.chg⟩)
end Go.Proofs.YteabebmlclgakaaGreat
