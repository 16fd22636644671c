/- MImprintBytes26: parts of the proof of ImprintBytes: HintUK, HintUK2, HintUK3, Shelf, Shelf2. No condition of their own. -/
import Derived.Test.YtpbapnlnheahnaaGreatDoorMImprintBytes16
import Derived.Test.YtpbapnlnheahnaaGreatDoorMImprintBytes25
import Derived.Test.YtpbapnlnheahnaaGreatDoorMImprintBytes11
import Derived.Test.YtpbapnlnheahnaaGreatDoorMImprintBytes7
set_option linter.unusedSimpArgs false
set_option linter.unusedVariables false
namespace Go.Proofs.YtpbapnlnheahnaaGreatDoor
open Go.RowKit
set_option maxRecDepth 100000
set_option maxHeartbeats 2000000
abbrev iRsUK (b m:Nat) (l:List (UInt32×Sl Key)) (n:Int):List Res:=idxRs 261 54 2 u32 Key.c b m l n
theorem inoneUK {w0:World} {b m:Nat} (hc:w0.cell? ⟨b,0,none⟩=some (.map (some m))):Calls Tryz.prog 174 #[ptr b] w0 fun e w'=>e= .returned (.bool false)∧Chg N0 w0 w':=by
 have hp:=Hp.start (S:=N0) w0
 refine calls_x (args:= [_]) tabOk Tryz.func174 Tryz.ntmps174 Tryz.results174 rfl (Nat.le_of_ble_eq_true rfl) ?_
 ((conv=>whnf);repeat' ((first|((with_reducible apply br_id);with_reducible refine br_f ?_)|((with_reducible apply ld_id);(refine ld_of (hp.chg.cell0 hc) ?_)))<;>(conv=>whnf)))
 exact ps_val (v':= .bool false) rfl ⟨rfl,hp.chg⟩
theorem inewUK {w0:World}:Calls Tryz.prog 133 #[] w0 fun e w'=>∃b m,e= .returned (ptr b)∧Made (star (iRsUK b m [] 0)) w0 w':=by
 have hp:=Hp.start (S:=N0) w0
 refine calls_x (args:= []) tabOk Tryz.func133 Tryz.ntmps133 Tryz.results133 rfl (Nat.le_of_ble_eq_true rfl) ?_
 ((conv=>whnf);repeat' ((first|((with_reducible apply al_id);refine al_cel hp ?_;clear hp;intro bb w hp)|((with_reducible apply gen_id);first|((refine gen_mmake rfl u32 (Sl.v (α:=Key)) hp ?_);clear hp;intro bb w hp)|(apply gen_build;exact rfl;exact rfl)))<;>(conv=>whnf)))
 exact ps_of ⟨_,_,rfl,hp.made (.refl _)⟩
theorem iatUK {w0:World} {b m:Nat} {l:List (UInt32×Sl Key)} {n:Int} (h:IdxAt u32 Key.c 2 w0 b m l n) (k:UInt32) (hn:(idx l k).l.length≤1000000):Calls Tryz.prog 189 #[ptr b,u32 k] w0 fun e w'=>∃r:Sl Key,r.l=(idx l k).l∧e= .returned r.v∧Made (rowR 54 2 Key.c r) w0 w':=by
 have hp:=Hp.start (S:=N0) w0
 have hB:∀b,N0 b→w0.heap.size≤b:=fun _ hh=>hh.elim
 have hsa:=h.idx k
 obtain ⟨s,hs⟩:∃s,idx l k=s:=⟨_,rfl⟩
 rw [hs] at hn hsa ⊢
 refine calls_x (args:= [_,_]) tabOk Tryz.func189 Tryz.ntmps189 Tryz.results189 rfl (Nat.le_of_ble_eq_true rfl) ?_
 ((conv=>whnf);repeat' ((first|((with_reducible apply br_id);with_reducible refine br_f ?_)|((with_reducible apply ld_id);(refine ld_of (hp.chg.cell0 h.c0) ?_))|((with_reducible apply gen_id);first|(refine gen_lookM rfl (h.map.keep0 hp.chg) rfl (u32_enc Tryz.underlying24) Tryz.underlying259 (z:=Sl.nil) rfl k rfl hs ?_)|((refine gen_app0 rfl hp el_key rfl s rfl (hsa.keep hp.chg hB) (fun _ _=>rfl) key_one (by omega) (by simp only [maxLen];omega) ?_);clear hp;intro A1 c1 w hcc hp))|((with_reducible apply cl_id);(refine cl_eq ((inoneUK (hp.chg.cell0 h.c0))) rfl rfl ?_;rintro e w ⟨rfl,hcc⟩;replace hp:=hp.call0 hcc;refine ⟨_,rfl,?_⟩)))<;>(conv=>whnf)))
 exact ps_val (v':= .slice A1 s.l.length c1) rfl ⟨⟨A1,c1,s.l⟩,rfl,rfl,hp.made1 (j:=0) rfl⟩
theorem ieachUK {w0:World} (b:Nat) (k:UInt32):Calls Tryz.prog 184 #[ptr b,u32 k] w0 fun e w'=>∃b2 b3,e= .returned (.func (.func 188) #[] #[ptr b2,ptr b3])∧Made (star [cel b3 24 #[u32 k],cel b2 212 #[ptr b]]) w0 w':=by
 have hp:=Hp.start (S:=N0) w0
 refine calls_x (args:= [_,_]) tabOk Tryz.func184 Tryz.ntmps184 Tryz.results184 rfl (Nat.le_of_ble_eq_true rfl) ?_
 ((conv=>whnf);repeat' ((first|((with_reducible apply al_id);refine al_cel hp ?_;clear hp;intro bb w hp)|((with_reducible apply gen_id);(refine gen_mkf rfl rfl ?_)))<;>(conv=>whnf)))
 exact ps_of ⟨_,_,rfl,hp.made (.refl _)⟩
abbrev iEachUK (b b2 b3:Nat) (k:UInt32):List Res:= [cel b3 24 #[u32 k],cel b2 212 #[ptr b]]
theorem iiterUK {w0:World} {b m b2 b3:Nat} {l:List (UInt32×Sl Key)} {n:Int} {k:UInt32} (h:(star (iRsUK b m l n)).ok w0) (h3:(cel b3 24 #[u32 k]).ok w0) (h2:(cel b2 212 #[ptr b]).ok w0) (hn:(idx l k).l.length≤1000000):
  Iter Tryz.prog (fun x=>(∃r∈iEachUK b b2 b3 k,r.dom x)∨(star (iRsUK b m l n)).dom x) 188 #[ptr b2,ptr b3] (fun v:Key=> #[Key.v v]) (idx l k).l w0:=by
 refine ⟨fun L R X r0 hR0 hR hdis hy=>?_⟩
 have hp:=Hp.start1 hR
 have hx2:¬r0.dom b2:=fun hh=>hdis _ hh (.inl ⟨_,List.mem_cons_of_mem _ (List.mem_cons_self ..),cel_dom.2 rfl⟩)
 have hx3:¬r0.dom b3:=fun hh=>hdis _ hh (.inl ⟨_,List.mem_cons_self ..,cel_dom.2 rfl⟩)
 have hxi:∀x,(star (iRsUK b m l n)).dom x→¬r0.dom x:=fun x hx hh=>hdis _ hh (.inr hx)
 obtain ⟨xs,hxs⟩:∃xs,(idx l k).l=xs:=⟨_,rfl⟩
 have hsat:=fun {w:World} (hc:Chg r0.dom w0 w)=>iatUK (idxAt ((star (iRsUK b m l n)).keep h hc hxi)) k hn
 rw [hxs] at hy hsat ⊢
 show Calls _ _ #[.func (.yield L) #[] #[],ptr b2,ptr b3] w0 _
 have us:=Tryz.underlying218
 refine calls_x (args:= [_,_,_]) tabOk Tryz.func188 Tryz.ntmps188 Tryz.results188 rfl (Nat.le_of_ble_eq_true rfl) ?_
 ((conv=>whnf);repeat' (((with_reducible apply ld_id);first|(refine ld_of (hp.chg.cell (cell_of_heap (cel_ok.1 h2) rfl) hx2) ?_)|(refine ld_of (hp.chg.cell (cell_of_heap (cel_ok.1 h3) rfl) hx3) ?_))<;>(conv=>whnf)))
 refine cl_eq (hsat hp.chg) rfl rfl ?_
 rintro e w ⟨r,hr,rfl,hm⟩
 replace hp:=hp.add hm
 clear hm
 refine ⟨_,rfl,?_⟩
 subst hr
 have hmax:r.l.length≤9223372036854775807:=by have:=(hp.row (j:=0) rfl).le;have:=(hp.row (j:=0) rfl).max;simp only [maxLen] at this;omega
 ((conv=>whnf);repeat' (((with_reducible apply gen_id);apply gen_len;exact rfl;exact rfl;assumption)<;>(conv=>whnf)))
 refine lp_inv (α:=Nat) (fun i=> [(0, .func (.yield L) #[] #[]),(8,r.v),(9,i64 r.l.length),(10,i64 i)]) (fun i w=>i≤r.l.length∧∃q,R i q∧Hp r0.dom w0 w [rowR 54 2 Key.c r,q]) (fun i=>r.l.length - i) 0 (by (repeat' (first|exact trivial|(refine ⟨rfl,?_⟩)))) ⟨by omega,r0,hR0,hp⟩ ?_
 clear hp
 rintro i e0 w ⟨hi,q,hq,hp⟩
 dsimp only at hi hp ⊢
 rcases Nat.lt_or_ge i r.l.length with hlt|hge
 ·obtain ⟨bb,oo,y,hA,hbb,hrow,hyy⟩:=(hp.row (j:=0) rfl).has hlt
  ((conv=>whnf);repeat' ((first|((with_reducible apply br_id);(with_reducible refine br_dec (fun hx=>?_) (fun hx=>?_))<;>(try (exfalso;first|omega|contradiction)))|((with_reducible apply cn_id);refine cn rfl ?_)|((with_reducible apply ldn_id);first|(refine ldn_ownx hp 0 rfl ‹_› _ rfl ‹_› rfl ?_)|(apply lda_hs hp;(focus repeat' constructor);exact rfl))|((with_reducible apply al_id);refine al_cel hp ?_;clear hp;intro bb w hp)|((with_reducible apply st_id);apply sta_hs hp;(focus repeat' constructor);exact rfl;exact rfl;clear hp;intro w hp;(try dsimp only [List.set] at hp))|((with_reducible apply gen_id);(refine gen_ixs rfl rfl ‹_› rfl rfl (by omega) ?_)))<;>(conv=>whnf)))
  refine yl_of (hy i y w q hq hyy (hp.shut1 (j:=2) rfl)) rfl ?_
  rintro e w (⟨rfl,q',hq',hm⟩|⟨rfl,q',hq',hm⟩)
  ·replace hp:=hp.via (j:=2) rfl hm
   dsimp only [List.set] at hp
   refine ⟨_,rfl,?_⟩
   ((conv=>whnf);repeat' ((first|((with_reducible apply br_id);first|with_reducible refine br_t ?_|with_reducible refine br_not ?_)|((with_reducible apply ar_id);refine ar_i64 (by omega) ?_))<;>(conv=>whnf)))
   exact lp_next (i+1) (by show r.l.length - (i+1) < r.l.length - i;omega) (by (repeat' (first|exact trivial|(refine ⟨rfl,?_⟩)))) ⟨by show i+1≤_;omega,q',hq',hp.tail⟩
  ·replace hp:=hp.via (j:=2) rfl hm
   dsimp only [List.set] at hp
   refine ⟨_,rfl,?_⟩
   ((conv=>whnf);repeat' (((with_reducible apply br_id);first|with_reducible refine br_f ?_|with_reducible refine br_not ?_)<;>(conv=>whnf)))
   exact ps_of ⟨⟨_,rfl⟩, .inr ⟨i,q',hlt,hq',hp.shut1 (j:=2) rfl⟩⟩
 ·((conv=>whnf);repeat' (((with_reducible apply br_id);(with_reducible refine br_dec (fun hx=>?_) (fun hx=>?_))<;>(try (exfalso;first|omega|contradiction)))<;>(conv=>whnf)))
  have:i=r.l.length:=by omega
  subst this
  exact ps_of ⟨⟨_,rfl⟩, .inl ⟨q,hq,hp.shut1 (j:=1) rfl⟩⟩
theorem ihasUK {w0:World} {b m:Nat} {l:List (UInt32×Sl Key)} {n:Int} (h:(star (iRsUK b m l n)).ok w0) (k:UInt32) (v:Key) (hn:(idx l k).l.length≤1000000):Calls Tryz.prog 175 #[ptr b,u32 k,Key.v v] w0 fun e w'=>e= .returned (.bool (decide (v∈(idx l k).l)))∧Chg N0 w0 w':=by
 have hp:=Hp.start (S:=N0) w0
 obtain ⟨xs,hxs⟩:∃xs,(idx l k).l=xs:=⟨_,rfl⟩
 refine calls_x (args:= [_,_,_]) tabOk Tryz.func175 Tryz.ntmps175 Tryz.results175 rfl (Nat.le_of_ble_eq_true rfl) ?_
 ((conv=>whnf);repeat' (((with_reducible apply al_id);refine al_cel hp ?_;clear hp;intro bb w hp)<;>(conv=>whnf)))
 rename_i b5 w5
 obtain ⟨rest,hp⟩:∃rest,Hp N0 w0 w (cel bb 4 #[.bool false]::cel b5 54 (Key.c v).toArray::rest):=⟨_,hp⟩
 obtain ⟨b6,hb6⟩:∃x,x=bb:=⟨_,rfl⟩
 subst hb6
 refine cl_eq (ieachUK b k) rfl rfl ?_
 rintro e w ⟨b2,b3,rfl,hm⟩
 replace hp:=(hp.add hm).unfold
 clear hm
 refine ⟨_,rfl,?_⟩
 ((conv=>whnf))
 have hst:(star (iRsUK b m l n)).ok w:=(star (iRsUK b m l n)).keep0 h hp.chg
 have hit:=fun (w1:World) (hc:Chg N0 w w1)=>iiterUK (k:=k) ((star (iRsUK b m l n)).keep0 hst hc) ((cel b3 24 #[u32 k]).keep0 (hp.get (j:=0) rfl) hc) ((cel b2 212 #[ptr b]).keep0 (hp.get (j:=1) rfl) hc) hn
 have hp2:=hp.tail.tail.sub (List.take_sublist 2 _)
 have hp3:Hp N0 w0 w (iEachUK b b2 b3 k++List.take 2 (cel b6 4 #[.bool false]::cel b5 54 (Key.c v).toArray::rest)):=hp.sub ((List.take_sublist 2 _).append_left (iEachUK b b2 b3 k))
 have hT:=iter_at (T:=(star (iRsUK b m l n)).dom) hp3 fun x hx=>⟨(star (iRsUK b m l n)).lt w0 h x hx,fun hh=>hh⟩
 rw [hxs] at hit ⊢
 refine rf_iter (es:=fun y=> [(11,Key.v y)]) (rsI:=fun i q=>(∀y∈xs.take i,y≠v)∧q= [cel b6 4 #[.bool false],cel b5 54 (Key.c v).toArray]) (rsX:=fun _ q=>v∈xs∧q= [cel b6 4 #[.bool true],cel b5 54 (Key.c v).toArray]) hp2 (by kernel_rfl) (by kernel_rfl) rfl (enters tabOk (by kernel_rfl)) (fun _=>rfl) (fun _=>zip1 _ _) hT hit ⟨by simp,rfl⟩ .ret ⟨_,rfl⟩ ?_ ?_ ?_
 ·clear hp hp2 hp3 hT hit
  rintro i y L D o o' W _ ⟨hno,rfl⟩ hy hc hown hp
  ((conv=>whnf);repeat' ((first|((with_reducible apply br_id);(with_reducible refine br_s (fun hx=>?_) (fun hx=>?_))<;>(try (exfalso;first|omega|contradiction)))|((with_reducible apply cn_id);refine cn rfl ?_)|((with_reducible apply ldn_id);apply lda_hs hp;(focus repeat' constructor);exact rfl)|((with_reducible apply al_id);refine al_cel hp ?_;clear hp;intro bb w hp)|((with_reducible apply st_id);apply sta_hs hp;(focus repeat' constructor);exact rfl;exact rfl;clear hp;intro w hp;(try dsimp only [List.set] at hp))|((with_reducible apply gen_id);(refine gen_eqa rfl rfl rfl (eq_key y v) (by kernel_rfl) (.inl rfl) ?_))|((with_reducible apply bg_id);(refine bg_hs hp 1 rfl ?_);clear hp;intro w hp;(try dsimp only [List.set] at hp)))<;>(conv=>whnf)))
  ·have hx':y=v:=by simpa using hx
   exact bo ⟨rfl,_,⟨hx'▸List.mem_of_getElem? hy,rfl⟩,hp.tail⟩
  ·refine bo ⟨_,⟨fun z hz=>?_,rfl⟩,hp.tail⟩
   rw [List.take_add_one,hy] at hz
   rcases List.mem_append.1 hz with hz|hz
   ·exact hno z hz
   ·simp at hz
    subst hz
    have hx':¬z=v:=by simpa using hx
    exact hx'
 ·clear hp hp2 hp3 hT hit
  rintro L D o W _ ⟨hf,rfl⟩ hp
  rw [List.take_length] at hf
  ((conv=>whnf);repeat' ((first|((with_reducible apply cn_id);refine cn rfl ?_)|((with_reducible apply ld_id);apply ld_hs hp;(focus repeat' constructor);exact rfl)|((with_reducible apply st_id);apply sta_hs hp;(focus repeat' constructor);exact rfl;exact rfl;clear hp;intro w hp;(try dsimp only [List.set] at hp))|((with_reducible apply td_id);(refine td_hs hp 1 rfl ?_);clear hp;intro w hp;(try dsimp only [List.set] at hp)))<;>(conv=>whnf)))
  exact ps_val (v':= .bool false) rfl ⟨by rw [decide_eq_false fun hh=>hf v hh rfl],hp.chg⟩
 ·clear hp hp2 hp3 hT hit
  rintro i L D o W _ hi ⟨hf,rfl⟩ hp
  ((conv=>whnf);repeat' ((first|((with_reducible apply ld_id);apply ld_hs hp;(focus repeat' constructor);exact rfl)|((with_reducible apply td_id);(refine td_hs hp 1 rfl ?_);clear hp;intro w hp;(try dsimp only [List.set] at hp)))<;>(conv=>whnf)))
  exact ps_val (v':= .bool true) rfl ⟨by rw [decide_eq_true hf],hp.chg⟩
theorem inoteUK {w0:World} {b m:Nat} {l:List (UInt32×Sl Key)} {n:Int} (h:(star (iRsUK b m l n)).ok w0) (k:UInt32) (v:Key) (hn:(idx l k).l.length≤100000) (hn2: -1000000≤n∧n≤1000000):Calls Tryz.prog 161 #[ptr b,u32 k,Key.v v] w0 fun e w'=>
  (v∈(idx l k).l∧e= .returned (.bool false)∧Chg N0 w0 w')∨(v∉(idx l k).l∧e= .returned (.bool true)∧∃s':Sl Key,s'.l=(idx l k).l++ [v]∧Mut (star (iRsUK b m l n)) (star (iRsUK b m (mput l k s') (n+1))) w0 w'):=by
 have hI:=idxAt h
 by_cases hv:v∈(idx l k).l
 ·have hp:=Hp.start (S:=N0) w0
  have hhas:∀{w:World},Chg N0 w0 w→Calls Tryz.prog 175 #[ptr b,u32 k,Key.v v] w fun e w'=>e= .returned (.bool true)∧Chg N0 w w':=fun hc=>by
   have:=ihasUK ((star (iRsUK b m l n)).keep0 h hc) k v (by omega)
   rwa [decide_eq_true hv] at this
  refine calls_x (args:= [_,_,_]) tabOk Tryz.func161 Tryz.ntmps161 Tryz.results161 rfl (Nat.le_of_ble_eq_true rfl) ?_
  ((conv=>whnf);repeat' ((first|((with_reducible apply br_id);first|with_reducible refine br_t ?_|with_reducible refine br_f ?_)|((with_reducible apply ldn_id);apply lda_hs hp;(focus repeat' constructor);exact rfl)|((with_reducible apply al_id);refine al_cel hp ?_;clear hp;intro bb w hp)|((with_reducible apply cl_id);first|((refine cl_eq ((inoneUK (hp.chg.cell0 hI.c0))) rfl rfl ?_;rintro e w ⟨rfl,hcc⟩;replace hp:=hp.call0 hcc;refine ⟨_,rfl,?_⟩))|((refine cl_eq ((hhas hp.chg)) rfl rfl ?_;rintro e w ⟨rfl,hcc⟩;replace hp:=hp.call0 hcc;refine ⟨_,rfl,?_⟩))))<;>(conv=>whnf)))
  exact ps_val (v':= .bool false) rfl (.inl ⟨hv,rfl,hp.chg⟩)
 ·have hp:=Hp.open h
  have hhas:∀{w:World} {c:List Res},Hp (star (iRsUK b m l n)).dom w0 w (c++iRsUK b m l n)→Calls Tryz.prog 175 #[ptr b,u32 k,Key.v v] w fun e w'=>e= .returned (.bool false)∧Chg N0 w w':=fun {w c} hp=>by
   have h1:(star (iRsUK b m l n)).ok w:=(hp.sub (List.sublist_append_right c _)).fold1.get (j:=0) rfl
   have:=ihasUK h1 k v (by omega)
   rwa [decide_eq_false hv] at this
  skip
  refine calls_x (args:= [_,_,_]) tabOk Tryz.func161 Tryz.ntmps161 Tryz.results161 rfl (Nat.le_of_ble_eq_true rfl) ?_
  ((conv=>whnf);repeat' ((first|((with_reducible apply br_id);first|with_reducible refine br_f ?_|((with_reducible refine br_ne (fun hx=>?_) (fun hx=>?_))<;>(try (exfalso;first|omega|contradiction))))|((with_reducible apply ldn_id);apply lda_hs hp;(focus repeat' constructor);exact rfl)|((with_reducible apply al_id);refine al_cel hp ?_;clear hp;intro bb w hp)|((with_reducible apply cl_id);first|((refine cl_eq ((inoneUK (cell_of_heap (hp.cel_get (j:=1) rfl) rfl))) rfl rfl ?_;rintro e w ⟨rfl,hcc⟩;replace hp:=hp.call0 hcc;refine ⟨_,rfl,?_⟩))|((refine cl_eq ((hhas (c:= [_]) hp)) rfl rfl ?_;rintro e w ⟨rfl,hcc⟩;replace hp:=hp.call0 hcc;refine ⟨_,rfl,?_⟩))))<;>(conv=>whnf)))
  obtain ⟨rest,hp,hperm, -⟩:=idx_out (c:= [_]) k hp
  have hl1:=(hp.row (j:=0) rfl).le
  refine dr_autos [1,2,3,4] 13 tabOk (by kernel_rfl) (by decide+kernel) ?_
  replace hp:=hp.drew
  ((conv=>whnf);repeat' ((first|((with_reducible apply ar_id);refine ar_i64 (by omega) ?_)|((with_reducible apply cn_id);first|refine cn rfl ?_|refine cn (Chg.refl _ _) ?_)|((with_reducible apply ld_id);apply ld_hs hp;(focus repeat' constructor);exact rfl)|((with_reducible apply ldn_id);apply lda_hs hp;(focus repeat' constructor);exact rfl)|((with_reducible apply st_id);apply st_hs hp;(focus repeat' constructor);exact rfl;exact rfl;clear hp;intro w hp;(try dsimp only [List.set] at hp))|((with_reducible apply gen_id);first|((refine gen_bs rfl hp el_key Key.c [v] [Key.v v] rfl rfl rfl (fun _ hh=>by simp at hh;subst hh;rfl) (by omega) ?_);clear hp;intro br w hp)|((refine gen_app (s:=idx l k) rfl hp 1 rfl el_key rfl ⟨some ⟨br,0,none⟩,1, [v]⟩ rfl (hp.row (j:=0) rfl) (fun _ _=>rfl) key_one (by simp only [List.length_cons,List.length_nil];omega) (by simp only [maxLen,List.length_cons,List.length_nil];omega) ?_);clear hp;intro A2 c2 w hp;dsimp only [List.set] at hp)|((refine gen_put rfl hp 4 rfl rfl (u32_enc Tryz.underlying24) Tryz.underlying259 k rfl (⟨A2,c2,(idx l k).l++ [v]⟩:Sl Key) rfl ?_);clear hp;intro w hp;dsimp only [List.set] at hp))|((with_reducible apply fk_id);refine fk_mk ?_ ?_)|((with_reducible apply rd_id);(refine rd_look rfl hp 3 rfl rfl (u32_enc Tryz.underlying24) Tryz.underlying259 (z:=Sl.nil) rfl k rfl ?_)))<;>(conv=>whnf)))
  all_goals
   have hp3:=idx_back (l':=mput l k ⟨A2,c2,(idx l k).l++ [v]⟩) (c:= [_]) hp.tail (hperm ⟨A2,c2,(idx l k).l++ [v]⟩)
   exact ps_val (v':= .bool true) rfl (.inr ⟨hv,rfl,⟨A2,c2,(idx l k).l++ [v]⟩,rfl,hp3.shut (List.sublist_append_right _ _)⟩)
structure Ent where
 blob:Blob
 place:Int
abbrev Ent.c (x:Ent):List Value:=(u32 x.blob.key.ses::u32 x.blob.key.seq::u8 x.blob.hint[0]::u8 x.blob.hint[1]::u8 x.blob.hint[2]::u8 x.blob.hint[3]::u8 x.blob.hint[4]::u8 x.blob.hint[5]::u8 x.blob.hint[6]::u8 x.blob.hint[7]::u8 x.blob.hint[8]::u8 x.blob.hint[9]::u8 x.blob.hint[10]::u8 x.blob.hint[11]::u8 x.blob.hint[12]::u8 x.blob.hint[13]::u8 x.blob.hint[14]::u8 x.blob.hint[15]::x.blob.data.v::i64 x.place:: [])
abbrev Ent.v (x:Ent):Value:= .agg (List.toArray (u32 x.blob.key.ses::u32 x.blob.key.seq::u8 x.blob.hint[0]::u8 x.blob.hint[1]::u8 x.blob.hint[2]::u8 x.blob.hint[3]::u8 x.blob.hint[4]::u8 x.blob.hint[5]::u8 x.blob.hint[6]::u8 x.blob.hint[7]::u8 x.blob.hint[8]::u8 x.blob.hint[9]::u8 x.blob.hint[10]::u8 x.blob.hint[11]::u8 x.blob.hint[12]::u8 x.blob.hint[13]::u8 x.blob.hint[14]::u8 x.blob.hint[15]::x.blob.data.v::i64 x.place:: []))
def Ent.z:Ent:=⟨Blob.z,0⟩
theorem fld_ent (x:Ent) (w:World):(Instr.field 266 x.v 0).run Tryz.prog w= .ok x.blob.v w:=by kernel_rfl
theorem fld_hint (x:Blob) (w:World):(Instr.field 46 x.v 2).run Tryz.prog w= .ok x.hint.v w:=by kernel_rfl
theorem rd_fld {P:Program} {ρ:Operand→Value} {o:Oper} {w:World} {g:Value→Prop} {t:TypeId} {x:Operand} {i:Nat} (hop:o.op= .field t x i) {v0 v:Value} (hx:ρ x=v0) (h:∀w,(Instr.field t v0 i).run P w= .ok v w) (hk:g v):Rd P ρ o w g:=by
 refine ⟨v,fun w' _=>?_,hk⟩
 simp [execOp,hop,hx,h]
structure Shf where
 hb:Nat
 hm:Nat
 lh:List (Hint×Sl Key)
 nh:Int
 mb:Nat
 mm:Nat
 lm:List (UInt32×Sl Key)
 nm:Int
 am:Nat
 la:List (Key×Ent)
 next:Int
 bytes:Int
abbrev shC (g:Shf):Array Value:= #[ptr g.hb,ptr g.mb, .map (some g.am),i64 g.next,i64 g.bytes]
abbrev entR (p:Key×Ent):Res:=rowR 5 1 u8L p.2.blob.data
abbrev shRs (b:Nat) (g:Shf):List Res:=cel b 216 (shC g)::star (iRsHK g.hb g.hm g.lh g.nh)::star (iRsUK g.mb g.mm g.lm g.nm)::mapR Key.v Ent.v g.am g.la::g.la.map entR
theorem shown_any {B:Nat} {w0:World} (x:Blob) (h:SlAt B w0 u8L 1 x.data) (hn:x.data.l.length≤1000000):Calls Tryz.prog 163 #[x.v] w0 fun e w'=>∃r:Bytes,r.l=x.data.l∧e= .returned (Blob.v {x with data:=r})∧Made (rowR 5 1 u8L r) w0 w':=by
 have hp:=Hp.start (S:=N0) w0
 have hB:∀b,N0 b→B≤b:=fun _ hh=>hh.elim
 refine calls_x (args:= [_]) tabOk Tryz.func163 Tryz.ntmps163 Tryz.results163 rfl (Nat.le_of_ble_eq_true rfl) ?_
 ((conv=>whnf);repeat' ((first|((with_reducible apply cn_id);refine cn rfl ?_)|((with_reducible apply ld_id);apply ld_hs hp;(focus repeat' constructor);exact rfl)|((with_reducible apply ldn_id);apply lda_hs hp;(focus repeat' constructor);exact rfl)|((with_reducible apply al_id);refine al_cel hp ?_;clear hp;intro bb w hp)|((with_reducible apply st_id);first|(apply sta_hs hp;(focus repeat' constructor);exact rfl;exact rfl;clear hp;intro w hp;(try dsimp only [List.set] at hp))|(apply st_hs hp;(focus repeat' constructor);exact rfl;exact rfl;clear hp;intro w hp;(try dsimp only [List.set] at hp)))|((with_reducible apply gen_id);(refine gen_app0 rfl hp el_u8 rfl x.data rfl (h.keep hp.chg hB) (fun _ _=>rfl) u8_one (by omega) (by simp only [maxLen];omega) ?_);clear hp;intro A1 c1 w hcc hp))<;>(conv=>whnf)))
 exact ps_val (v':=Blob.v {x with data:=⟨A1,c1,x.data.l⟩}) rfl ⟨⟨A1,c1,x.data.l⟩,rfl,rfl,hp.made1 (j:=0) rfl⟩
theorem shnone_any {w0:World} {b m:Nat} (hc:w0.cell? ⟨b,2,none⟩=some (.map (some m))):Calls Tryz.prog 159 #[ptr b] w0 fun e w'=>e= .returned (.bool false)∧Chg N0 w0 w':=by
 have hp:=Hp.start (S:=N0) w0
 refine calls_x (args:= [_]) tabOk Tryz.func159 Tryz.ntmps159 Tryz.results159 rfl (Nat.le_of_ble_eq_true rfl) ?_
 ((conv=>whnf);repeat' ((first|((with_reducible apply br_id);with_reducible refine br_f ?_)|((with_reducible apply ld_id);(refine ld_of (hp.chg.cell0 hc) ?_)))<;>(conv=>whnf)))
 exact ps_val (v':= .bool false) rfl ⟨rfl,hp.chg⟩
theorem shnew_any {w0:World}:Calls Tryz.prog 102 #[] w0 fun e w'=>∃b hb hm mb mm am,e= .returned (ptr b)∧Made (star (shRs b ⟨hb,hm, [],0,mb,mm, [],0,am, [],0,0⟩)) w0 w':=by
 have hp:=Hp.start (S:=N0) w0
 refine calls_x (args:= []) tabOk Tryz.func102 Tryz.ntmps102 Tryz.results102 rfl (Nat.le_of_ble_eq_true rfl) ?_
 ((conv=>whnf))
 refine cl_of inewHK ?_
 rintro e w ⟨hb,hm,rfl,hmd⟩
 replace hp:=hp.add hmd
 clear hmd
 refine ⟨_,rfl,?_⟩
 ((conv=>whnf))
 refine cl_of inewUK ?_
 rintro e w ⟨mb,mm,rfl,hmd⟩
 replace hp:=hp.add hmd
 clear hmd
 refine ⟨_,rfl,?_⟩
 ((conv=>whnf);repeat' ((first|((with_reducible apply al_id);refine al_cel hp ?_;clear hp;intro bb w hp)|((with_reducible apply gen_id);first|((refine gen_mmake rfl Key.v Ent.v hp ?_);clear hp;intro am w hp)|(apply gen_build;exact rfl;exact rfl)))<;>(conv=>whnf)))
 exact ps_val (v':=ptr bb) rfl ⟨bb,hb,hm,mb,mm,am,rfl,(hp.perm (.cons _ (perm321 ..))).made (.refl _)⟩
def byKey (W:List BlP) (k:Key):Option BlP:=W.find? fun y=>decide (y.key=k)
structure ShI (g:Shf) (W:List BlP):Prop where
 nodup:(W.map (·.key)).Nodup
 hints:∀h,(idx g.lh h).l=(W.filter fun y=>decide (y.hint=h)).map (·.key)
 mine:∀s,(idx g.lm s).l=(W.filter fun y=>decide (y.key.ses=s)).map (·.key)
 all:∀k,(mlk g.la k).map (·.blob.p)=byKey W k
 len:g.la.length=W.length
 nh:g.nh=W.length
 nm:g.nm=W.length
 bytes:g.bytes=((W.map (·.bytes.length)).sum:Nat)
 data:∀y∈W,y.bytes.length≤600
 many:W.length≤10000
 next:0≤g.next∧g.next≤100000
 ord:∃pl:Key→Int,(∀k e,mlk g.la k=some e→e.place=pl k)∧W.Pairwise (fun x y=>pl x.key < pl y.key)∧∀y∈W,0≤pl y.key∧pl y.key < g.next
theorem byKey_none {W:List BlP} {k:Key} (h:k∉W.map (·.key)):byKey W k=none:=by
 unfold byKey
 rw [List.find?_eq_none]
 intro y hy
 simp only [decide_eq_true_eq]
 exact fun e=>h (List.mem_map.2 ⟨y,hy,e⟩)
theorem byKey_some {W:List BlP} {k:Key} (hn:(W.map (·.key)).Nodup) {y:BlP} (hy:y∈W) (hk:y.key=k):byKey W k=some y:=by
 unfold byKey
 induction W with
 |nil=>cases hy
 |cons z W ih=>
  rw [List.map_cons,List.nodup_cons] at hn
  rw [List.find?_cons]
  rcases List.mem_cons.1 hy with rfl|hm
  ·simp [hk]
  ·have hz:z.key≠k:=fun e=>hn.1 (List.mem_map.2 ⟨y,hm,hk.trans e.symm⟩)
   simp only [hz,decide_false]
   exact ih hn.2 hm
def addE (W:List BlP) (x:BlP):Nat:=if 600 < x.bytes.length then 3 else if x.key∈W.map (·.key) then 6 else 0
def addW (W:List BlP) (x:BlP):List BlP:=if addE W x=0 then W++ [x] else W
theorem idx_le {g:Shf} {W:List BlP} (hI:ShI g W):(∀h,(idx g.lh h).l.length≤W.length)∧(∀s,(idx g.lm s).l.length≤W.length):=
 ⟨fun h=>by rw [hI.hints,List.length_map];exact List.length_filter_le _ _,fun s=>by rw [hI.mine,List.length_map];exact List.length_filter_le _ _⟩
theorem in_hint {g:Shf} {W:List BlP} (hI:ShI g W) (h:Hint) (k:Key):k∈(idx g.lh h).l↔∃y∈W,y.hint=h∧y.key=k:=by
 rw [hI.hints]
 simp only [List.mem_map,List.mem_filter,decide_eq_true_eq]
 exact ⟨fun ⟨y,⟨h1,h2⟩,h3⟩=>⟨y,h1,h2,h3⟩,fun ⟨y,h1,h2,h3⟩=>⟨y,⟨h1,h2⟩,h3⟩⟩
theorem in_mine {g:Shf} {W:List BlP} (hI:ShI g W) (k:Key):k∈(idx g.lm k.ses).l↔k∈W.map (·.key):=by
 rw [hI.mine]
 simp only [List.mem_map,List.mem_filter,decide_eq_true_eq]
 exact ⟨fun ⟨y,⟨h1,_⟩,h3⟩=>⟨y,h1,h3⟩,fun ⟨y,h1,h3⟩=>⟨y,⟨h1,by rw [h3]⟩,h3⟩⟩
theorem ShI.hint_back {g:Shf} {W:List BlP} (hI:ShI g W) {l':List (Hint×Sl Key)} (h:∀x,(idx l' x).l=(idx g.lh x).l):ShI {g with lh:=l',nh:=g.nh+1 - 1} W:=
 ⟨hI.nodup,fun x=>by show (idx l' x).l=_;rw [h,hI.hints],hI.mine,hI.all,hI.len,by show g.nh+1 - 1=_;rw [hI.nh];omega,hI.nm,hI.bytes,hI.data,hI.many,hI.next,hI.ord⟩
theorem ShI.add {g:Shf} {W:List BlP} (hI:ShI g W) {x:Blob} {r:Bytes} (hr:r.l=x.data.l) (hlen:x.data.l.length≤600) (hk:x.key∉W.map (·.key)) (hW:W.length < 10000) (hnx:g.next < 100000) {s':Sl Key} {t':Sl Key} (hs:s'.l=(idx g.lh x.hint).l++ [x.key]) (ht:t'.l=(idx g.lm x.key.ses).l++ [x.key]):
  ShI {g with lh:=mput g.lh x.hint s',nh:=g.nh+1,lm:=mput g.lm x.key.ses t',nm:=g.nm+1,la:=mput g.la x.key ⟨{x with data:=r},g.next⟩,next:=g.next+1,bytes:=g.bytes+(x.data.l.length:Int)} (W++ [x.p]) where
 nodup:=by
  rw [List.map_append,List.nodup_append]
  refine ⟨hI.nodup,by simp,fun a ha b hb=>?_⟩
  simp at hb
  subst hb
  exact fun e=>hk (by have h1:a=x.key:=e;rw [←h1];exact ha)
 hints h:=by
  show (idx (mput g.lh x.hint s') h).l=_
  rw [idx_mput,List.filter_append,List.map_append]
  by_cases hh:h=x.hint
  ·subst hh
   rw [if_pos rfl,hs,hI.hints]
   simp [Blob.p]
  ·rw [if_neg hh,hI.hints]
   have:¬x.hint=h:=fun e=>hh e.symm
   simp [Blob.p,this]
 mine s:=by
  show (idx (mput g.lm x.key.ses t') s).l=_
  rw [idx_mput,List.filter_append,List.map_append]
  by_cases hh:s=x.key.ses
  ·subst hh
   rw [if_pos rfl,ht,hI.mine]
   simp [Blob.p]
  ·rw [if_neg hh,hI.mine]
   have:¬x.key.ses=s:=fun e=>hh e.symm
   simp [Blob.p,this]
 all k:=by
  show (mlk (mput g.la x.key _) k).map _=_
  unfold mlk
  rw [lookup_mput]
  by_cases hh:k=x.key
  ·subst hh
   rw [if_pos rfl]
   have h1:=byKey_none hk
   unfold byKey at h1 ⊢
   rw [List.find?_append,h1]
   simp [Blob.p,hr]
  ·rw [if_neg hh]
   have h1:=hI.all k
   unfold mlk at h1
   rw [h1]
   have:¬x.key=k:=fun e=>hh e.symm
   unfold byKey
   rw [List.find?_append]
   simp [Blob.p,this]
 len:=by
  show (mput g.la x.key _).length=_
  have hno:x.key∉g.la.map (·.1):=fun hm=>by
   have h1:=hI.all x.key
   rw [byKey_none hk] at h1
   have h2:g.la.lookup x.key=none:=by simpa [mlk] using h1
   rw [List.lookup_eq_none_iff] at h2
   obtain ⟨p,hp,hpk⟩:=List.mem_map.1 hm
   have:=h2 p hp
   simp [hpk] at this
  unfold mput
  rw [if_neg hno,List.length_append,List.length_append,hI.len]
  rfl
 nh:=by show g.nh+1=_;rw [hI.nh,List.length_append];simp
 nm:=by show g.nm+1=_;rw [hI.nm,List.length_append];simp
 bytes:=by
  show g.bytes+_=_
  rw [hI.bytes,List.map_append,List.sum_append]
  simp [Blob.p]
 data y hy:=by
  rcases List.mem_append.1 hy with h1|h1
  ·exact hI.data y h1
  ·simp at h1
   subst h1
   exact hlen
 many:=by rw [List.length_append];simp;omega
 next:=by have:=hI.next;show 0≤g.next+1∧g.next+1≤100000;omega
 ord:=by
  obtain ⟨pl,h1,h2,h3⟩:=hI.ord
  have hkeys:∀y∈W,y.key≠x.key:=fun y hy e=>hk (List.mem_map.2 ⟨y,hy,e⟩)
  refine ⟨fun k=>if k=x.key then g.next else pl k,fun k e he=>?_,?_,fun y hy=>?_⟩
  ·have he:(mput g.la x.key ⟨{x with data:=r},g.next⟩).lookup k=some e:=he
   rw [lookup_mput] at he
   by_cases hh:k=x.key
   ·rw [if_pos hh] at he
    cases he
    show g.next=if k=x.key then g.next else pl k
    rw [if_pos hh]
   ·rw [if_neg hh] at he
    show e.place=if k=x.key then g.next else pl k
    rw [if_neg hh]
    exact h1 k e he
  ·rw [List.pairwise_append]
   refine ⟨h2.imp_of_mem fun {a b} ha hb hab=>?_,List.pairwise_singleton _ _,fun a ha b hb=>?_⟩
   ·show (if a.key=x.key then g.next else pl a.key) < (if b.key=x.key then g.next else pl b.key)
    rw [if_neg (hkeys a ha),if_neg (hkeys b hb)]
    exact hab
   ·simp at hb
    subst hb
    show (if a.key=x.key then g.next else pl a.key) < (if x.key=x.key then g.next else pl x.key)
    rw [if_neg (hkeys a ha),if_pos rfl]
    exact (h3 a ha).2
  ·have h0:=hI.next
   show 0≤(if y.key=x.key then g.next else pl y.key)∧(if y.key=x.key then g.next else pl y.key) < g.next+1
   rcases List.mem_append.1 hy with hy|hy
   ·rw [if_neg (hkeys y hy)]
    have:=h3 y hy
    omega
   ·simp at hy
    subst hy
    rw [if_pos (show x.p.key=x.key from rfl)]
    omega
theorem la_new {g:Shf} {W:List BlP} (hI:ShI g W) {k:Key} (hk:k∉W.map (·.key)) (v:Ent):mput g.la k v=g.la++ [(k,v)]:=by
 have hno:k∉g.la.map (·.1):=fun hm=>by
  have h1:=hI.all k
  rw [byKey_none hk] at h1
  have h2:g.la.lookup k=none:=by simpa [mlk] using h1
  rw [List.lookup_eq_none_iff] at h2
  obtain ⟨p,hp,hpk⟩:=List.mem_map.1 hm
  have:=h2 p hp
  simp [hpk] at this
 unfold mput
 rw [if_neg hno]
theorem bytes_le:∀(W:List BlP),(∀y∈W,y.bytes.length≤600)→((W.map (·.bytes.length)).sum:Nat)≤600*W.length
 | [],_=>by simp
 |y::W,hd=>by
  rw [List.map_cons,List.sum_cons,List.length_cons]
  have h1:=bytes_le W fun z hz=>hd z (List.mem_cons_of_mem _ hz)
  have h2:=hd y (List.mem_cons_self ..)
  omega
theorem shadd_no {B:Nat} {w0:World} {b:Nat} {g:Shf} {W:List BlP} (h:(star (shRs b g)).ok w0) (hI:ShI g W) (x:Blob) (hxd:SlOut (star (shRs b g)).dom B w0 u8L 1 x.data) (hBw:B≤w0.heap.size) (hW:W.length < 10000) (hnx:g.next < 100000) (hne0:addE W x.p≠0):Calls Tryz.prog 142 #[ptr b,x.v] w0 fun e w'=>
  ∃g',e= .returned (errno (addE W x.p))∧ShI g' (addW W x.p)∧g'.next≤g.next+1∧Mut (star (shRs b g)) (star (shRs b g')) w0 w':=by
 have hp:=Hp.open h
 have u2:=Tryz.underlying34
 have hmax:x.data.l.length≤9223372036854775807:=by have:=hxd.at_.le;have:=hxd.at_.max;simp only [maxLen] at this;omega
 have hbl:=hI.bytes
 have hbs:=bytes_le W hI.data
 have hlh:=(idx_le hI).1
 have hlm:=(idx_le hI).2
 have hnh:=hI.nh
 have hnm:=hI.nm
 have hnx0:=hI.next
 have hmany:=hI.many
 by_cases h6:600 < x.data.l.length
 ·have hE:addE W x.p=3:=if_pos h6
  rw [addW,hE,if_neg (by decide)]
  refine calls_x (args:= [_,_]) tabOk Tryz.func142 Tryz.ntmps142 Tryz.results142 rfl (Nat.le_of_ble_eq_true rfl) ?_
  ((conv=>whnf);repeat' ((first|((with_reducible apply br_id);first|with_reducible refine br_f ?_|((with_reducible refine br_dec (fun hx=>?_) (fun hx=>?_))<;>(try (exfalso;first|omega|contradiction))))|((with_reducible apply cn_id);refine cn rfl ?_)|((with_reducible apply ld_id);apply ld_hs hp;(focus repeat' constructor);exact rfl)|((with_reducible apply al_id);refine al_cel hp ?_;clear hp;intro bb w hp)|((with_reducible apply st_id);apply sta_hs hp;(focus repeat' constructor);exact rfl;exact rfl;clear hp;intro w hp;(try dsimp only [List.set] at hp))|((with_reducible apply gen_id);first|(apply gen_build;exact rfl;exact rfl)|(apply gen_len;exact rfl;exact rfl;assumption))|((with_reducible apply cl_id);(refine cl_eq ((shnone_any (cell_of_heap (hp.cel_get (j:=2) rfl) rfl))) rfl rfl ?_;rintro e w ⟨rfl,hcc⟩;replace hp:=hp.call0 hcc;refine ⟨_,rfl,?_⟩)))<;>(conv=>whnf)))
  exact ps_val (v':=errno 3) rfl ⟨g,rfl,hI,by omega,hp.tail.tail.shut (.refl _)⟩
 by_cases hk:x.key∈W.map (·.key)
 ·have hE:addE W x.p=6:=by unfold addE;rw [if_neg (show ¬600 < x.p.bytes.length from h6),if_pos (show x.p.key∈W.map (·.key) from hk)]
  rw [addW,hE,if_neg (by decide)]
  obtain ⟨y,hyW,hyk⟩:=List.mem_map.1 hk
  by_cases hyh:y.hint=x.hint
  ·have hin:x.key∈(idx g.lh x.hint).l:=(in_hint hI x.hint x.key).2 ⟨y,hyW,hyh,hyk⟩
   refine calls_x (args:= [_,_]) tabOk Tryz.func142 Tryz.ntmps142 Tryz.results142 rfl (Nat.le_of_ble_eq_true rfl) ?_
   ((conv=>whnf);repeat' ((first|((with_reducible apply br_id);first|with_reducible refine br_f ?_|((with_reducible refine br_dec (fun hx=>?_) (fun hx=>?_))<;>(try (exfalso;first|omega|contradiction))))|((with_reducible apply cn_id);refine cn rfl ?_)|((with_reducible apply ld_id);apply ld_hs hp;(focus repeat' constructor);exact rfl)|((with_reducible apply ldn_id);first|(apply lda_hs hp;(focus repeat' constructor);exact rfl)|(apply ldn_hs hp;(focus repeat' constructor);exact rfl;exact rfl))|((with_reducible apply al_id);refine al_cel hp ?_;clear hp;intro bb w hp)|((with_reducible apply st_id);apply sta_hs hp;(focus repeat' constructor);exact rfl;exact rfl;clear hp;intro w hp;(try dsimp only [List.set] at hp))|((with_reducible apply gen_id);first|(apply gen_build;exact rfl;exact rfl)|(apply gen_len;exact rfl;exact rfl;assumption))|((with_reducible apply dr_id);refine dr_auto tabOk (by kernel_rfl) (by decide+kernel) ?_;(try replace hp:=hp.drew))|((with_reducible apply cl_id);(refine cl_eq ((shnone_any (cell_of_heap (hp.cel_get (j:=2) rfl) rfl))) rfl rfl ?_;rintro e w ⟨rfl,hcc⟩;replace hp:=hp.call0 hcc;refine ⟨_,rfl,?_⟩)))<;>(conv=>whnf)))
   refine cl_eq (inoteHK (hp.get (j:=3) rfl) x.hint x.key (by have:=hlh x.hint;omega) (by omega)) rfl rfl ?_
   rintro e w (⟨-,rfl,hc⟩|⟨hno, -⟩)
   ·replace hp:=hp.call0 hc
    refine ⟨_,rfl,?_⟩
    ((conv=>whnf);repeat' (((with_reducible apply br_id);first|with_reducible refine br_f ?_|with_reducible refine br_not ?_)<;>(conv=>whnf)))
    exact ps_val (v':=errno 6) rfl ⟨g,rfl,hI,by omega,hp.tail.tail.shut (.refl _)⟩
   ·exact absurd hin hno
  ·have hni:x.key∉(idx g.lh x.hint).l:=fun hm=>by
    obtain ⟨z,hz1,hz2,hz3⟩:=(in_hint hI x.hint x.key).1 hm
    have h1:=byKey_some hI.nodup hyW hyk
    have h2:=byKey_some hI.nodup hz1 hz3
    rw [h1] at h2
    cases h2
    exact hyh hz2
   have hmine:x.key∈(idx g.lm x.key.ses).l:=(in_mine hI x.key).2 hk
   obtain ⟨en,hen,henp⟩:∃en,mlk g.la x.key=some en∧en.blob.p=y:=by
    have h1:=hI.all x.key
    rw [byKey_some hI.nodup hyW hyk] at h1
    cases hl:mlk g.la x.key with
    |none=>rw [hl] at h1;cases h1
    |some en=>rw [hl] at h1;exact ⟨en,rfl,Option.some.inj h1⟩
   have hlk:(g.la.lookup x.key).getD Ent.z=en:=by unfold mlk at hen;rw [hen];rfl
   have hne:¬en.blob.hint=x.hint:=fun e=>hyh (by rw [←henp];exact e)
   have hq:EqIs Tryz.prog 44 en.blob.hint.v x.hint.v false:=by have:=eq_hint en.blob.hint x.hint;rwa [decide_eq_false hne] at this
   have hbn:(if BinOp.neq=BinOp.eql then false else !false)=true:=rfl
   refine calls_x (args:= [_,_]) tabOk Tryz.func142 Tryz.ntmps142 Tryz.results142 rfl (Nat.le_of_ble_eq_true rfl) ?_
   ((conv=>whnf);repeat' ((first|((with_reducible apply br_id);first|with_reducible refine br_f ?_|((with_reducible refine br_dec (fun hx=>?_) (fun hx=>?_))<;>(try (exfalso;first|omega|contradiction))))|((with_reducible apply cn_id);refine cn rfl ?_)|((with_reducible apply ld_id);apply ld_hs hp;(focus repeat' constructor);exact rfl)|((with_reducible apply ldn_id);first|(apply lda_hs hp;(focus repeat' constructor);exact rfl)|(apply ldn_hs hp;(focus repeat' constructor);exact rfl;exact rfl))|((with_reducible apply al_id);refine al_cel hp ?_;clear hp;intro bb w hp)|((with_reducible apply st_id);apply sta_hs hp;(focus repeat' constructor);exact rfl;exact rfl;clear hp;intro w hp;(try dsimp only [List.set] at hp))|((with_reducible apply gen_id);first|(apply gen_build;exact rfl;exact rfl)|(apply gen_len;exact rfl;exact rfl;assumption))|((with_reducible apply dr_id);refine dr_auto tabOk (by kernel_rfl) (by decide+kernel) ?_;(try replace hp:=hp.drew))|((with_reducible apply cl_id);(refine cl_eq ((shnone_any (cell_of_heap (hp.cel_get (j:=2) rfl) rfl))) rfl rfl ?_;rintro e w ⟨rfl,hcc⟩;replace hp:=hp.call0 hcc;refine ⟨_,rfl,?_⟩)))<;>(conv=>whnf)))
   refine cl_eq (inoteHK (hp.get (j:=3) rfl) x.hint x.key (by have:=hlh x.hint;omega) (by omega)) rfl rfl ?_
   rintro e w (⟨hm, -⟩|⟨-,rfl,s',hs',hmt⟩)
   ·exact absurd hm hni
   replace hp:=hp.via (j:=3) rfl hmt
   clear hmt
   dsimp only [List.set] at hp
   refine ⟨_,rfl,?_⟩
   ((conv=>whnf);repeat' ((first|((with_reducible apply br_id);first|with_reducible refine br_t ?_|with_reducible refine br_not ?_)|((with_reducible apply ld_id);apply ld_hs hp;(focus repeat' constructor);exact rfl)|((with_reducible apply ldn_id);apply lda_hs hp;(focus repeat' constructor);exact rfl)|((with_reducible apply dr_id);refine dr_auto tabOk (by kernel_rfl) (by decide+kernel) ?_;(try replace hp:=hp.drew)))<;>(conv=>whnf)))
   refine cl_eq (inoteUK (hp.get (j:=4) rfl) x.key.ses x.key (by have:=hlm x.key.ses;omega) (by omega)) rfl rfl ?_
   rintro e w (⟨-,rfl,hc⟩|⟨hno, -⟩)
   ·replace hp:=hp.call0 hc
    refine ⟨_,rfl,?_⟩
    ((conv=>whnf);repeat' ((first|((with_reducible apply br_id);first|(with_reducible refine br_1 hbn ?_)|with_reducible refine br_f ?_|with_reducible refine br_not ?_)|((with_reducible apply ld_id);apply ld_hs hp;(focus repeat' constructor);exact rfl)|((with_reducible apply ldn_id);first|(apply lda_hs hp;(focus repeat' constructor);exact rfl)|(apply ldn_hs hp;(focus repeat' constructor);exact rfl;exact rfl))|((with_reducible apply dr_id);refine dr_auto tabOk (by kernel_rfl) (by decide+kernel) ?_;(try replace hp:=hp.drew))|((with_reducible apply rd_id);first|(refine rd_lookM rfl (mapR_ok.1 (hp.get (j:=5) rfl)) rfl keyK Tryz.underlying214 (z:=Ent.z) rfl x.key rfl hlk ?_)|(refine rd_fld rfl rfl (fld_ent en) ?_)|(refine rd_fld rfl rfl (fld_hint en.blob) ?_)|(refine rd_eqa rfl rfl rfl hq (by kernel_rfl) (.inr rfl) ?_)))<;>(conv=>whnf)))
    have hl2:(idx (mput g.lh x.hint s') x.hint).l=(idx g.lh x.hint).l++ [x.key]:=by rw [idx_mput,if_pos rfl,hs']
    refine cl_eq (istrikeHK (hp.get (j:=3) rfl) x.hint x.key (by rw [hl2,List.length_append];have:=hlh x.hint;simp;omega) (by omega)) rfl rfl ?_
    rintro e w (⟨hno, -⟩|⟨-,rfl,l',hl',hmt⟩)
    ·exact absurd (by rw [hl2];simp) hno
    replace hp:=hp.via (j:=3) rfl hmt
    clear hmt
    dsimp only [List.set] at hp
    refine ⟨_,rfl,?_⟩
    ((conv=>whnf))
    refine ps_val (v':=errno 6) rfl ⟨{g with lh:=l',nh:=g.nh+1 - 1},rfl,hI.hint_back fun z=>?_,by show g.next≤g.next+1;omega,hp.tail.tail.shut (.refl _)⟩
    rw [hl']
    by_cases hz:z=x.hint
    ·subst hz
     rw [if_pos rfl,hl2,List.erase_append_right _ hni]
     simp
    ·rw [if_neg hz,idx_mput,if_neg hz]
   ·exact absurd hmine hno
 ·exact absurd (by unfold addE;rw [if_neg (show ¬600 < x.p.bytes.length from h6),if_neg (show ¬x.p.key∈W.map (·.key) from hk)]) hne0
end Go.Proofs.YtpbapnlnheahnaaGreatDoor
