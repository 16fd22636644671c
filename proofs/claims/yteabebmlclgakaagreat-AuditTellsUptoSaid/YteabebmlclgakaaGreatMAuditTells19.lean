/- MAuditTells19: ChLoad2, SesP, Job2. -/
import Derived.Test.YteabebmlclgakaaGreatMAuditTells18
import Derived.Test.YteabebmlclgakaaGreatMAuditTellssTailS
import Derived.Test.YteabebmlclgakaaGreatMAuditTells7
import Derived.Test.YteabebmlclgakaaGreatMAuditTells6
import Derived.Test.YteabebmlclgakaaGreatMAuditTells13
set_option linter.unusedSimpArgs false
set_option linter.unusedVariables false
/- ChLoad2: package chain: Load. No condition. -/
namespace Go.Proofs.YteabebmlclgakaaGreat
open Go.RowKit
set_option maxRecDepth 100000
set_option maxHeartbeats 4000000
theorem fits_any (w0:World) (d:Int):Calls Tryz.prog 104 #[i64 d] w0 fun e w'=>e= .returned (.bool (decide (1≤d∧d≤16)))∧Chg N0 w0 w':=by
 have hp:=Hp.start (S:=N0) w0
 by_cases h1:1≤d
 ·refine calls_x (args:= [_]) tabOk Tryz.func104 Tryz.ntmps104 Tryz.results104 rfl (Nat.le_of_ble_eq_true rfl) ?_
  ((conv=>whnf);repeat' (((with_reducible refine br_id ?_);first|(with_reducible refine br_t ?_)|((with_reducible refine br_dec (fun hx=>?_) (fun hx=>?_))<;>(try (exfalso;first|omega|contradiction))))<;>(conv=>whnf)))
  all_goals exact ps_val (v':= .bool (decide (d≤16))) rfl ⟨congrArg (fun b=>Ending.returned (.bool b)) (decide_eq_decide.2 (by omega)),hp.chg⟩
 ·refine calls_x (args:= [_]) tabOk Tryz.func104 Tryz.ntmps104 Tryz.results104 rfl (Nat.le_of_ble_eq_true rfl) ?_
  ((conv=>whnf);repeat' (((with_reducible refine br_id ?_);first|(with_reducible refine br_f ?_)|((with_reducible refine br_dec (fun hx=>?_) (fun hx=>?_))<;>(try (exfalso;first|omega|contradiction))))<;>(conv=>whnf)))
  all_goals exact ps_val (v':= .bool false) rfl ⟨congrArg (fun b=>Ending.returned (.bool b)) (decide_eq_false (by omega)).symm,hp.chg⟩
abbrev chlRs (b:Nat) (C:Chn):List Res:= [cel b 159 C.c.toArray,star (winRs C.win)]
theorem nextOk_at {W l:List Blk} {i:Nat} {y:Blk} (h:W.map Blk.p=(l.take i).map Blk.p) (hy:l[i]? =some y):nextOk W y=winAt l i:=by
 have hi:=(List.getElem?_eq_some_iff.1 hy).1
 have h1:W.map (·.hash)=(l.take i).map (·.hash):=by
  have e:∀l:List Blk,l.map (·.hash)=(l.map Blk.p).map (·.hash):=fun l=>by rw [List.map_map];rfl
  rw [e,e,h]
 have h2:(W.getLast?).map Blk.p=((l.take i).getLast?).map Blk.p:=by rw [←List.getLast?_map,←List.getLast?_map,h]
 have e2:∀o o':Option Blk,o.map Blk.p=o'.map Blk.p→lastOk y o=lastOk y o':=fun o o' e=>by
  cases o<;>cases o'<;>simp only [Option.map_some,Option.map_none,reduceCtorEq,Option.some.injEq] at e
  ·rfl
  ·exact congrArg (fun z:BlkP=>decide (y.parent=z.hash)) e
 unfold nextOk winAt
 rw [hy,h1,e2 _ _ h2]
 dsimp only
 congr 2
 cases i with
 |zero=>rfl
 |succ k=>
  have h3:(l.take (k+1)).getLast? =l[k]? :=by
   rw [List.getLast?_eq_getElem?,List.length_take,Nat.min_eq_left (by omega)]
   simp
  rw [h3]
  dsimp only
  cases l[k]? <;>rfl
theorem winAt_tx {l:List Blk} {n:Nat} (h:∀k,k < n→winAt l k=true):∀c∈l.take n,c.tx.l.length≤32:=fun c hc=>by
 obtain ⟨k,hk⟩:=List.getElem?_of_mem hc
 have hkn:k < n:=by
  have:=(List.getElem?_eq_some_iff.1 hk).1
  rw [List.length_take] at this
  omega
 have h1:=h k hkn
 rw [List.getElem?_take_of_lt hkn] at hk
 unfold winAt at h1
 rw [hk] at h1
 dsimp only at h1
 rw [Bool.and_eq_true] at h1
 have h2:=h1.1
 unfold rightB at h2
 simp only [Bool.and_eq_true,decide_eq_true_eq] at h2
 exact h2.1.1
theorem chload_any {B:Nat} {w0:World} (d:Int) (ht:UInt32) {s:Sl Blk} (h:SlAt B w0 Blk.c 65 s) (htx:∀b∈s.l,SlAt B w0 Id.c 32 b.tx):Calls Tryz.prog 61 #[i64 d,u32 ht,s.v] w0 fun e w'=>
  (chS d ht s.l=false∧e= .returned (.tuple #[.pointer none,i64 1])∧Chg N0 w0 w')∨(chS d ht s.l=true∧∃b W,W.l.map Blk.p=s.l.map Blk.p∧e= .returned (.tuple #[ptr b,i64 0])∧Made (star (chlRs b ⟨d,ht,W⟩)) w0 w'):=by
 have hp:=Hp.start (S:=N0) w0
 have hB:∀b,N0 b→B≤b:=fun _ hh=>hh.elim
 have u3:=Tryz.underlying26
 have hmax:s.l.length≤9223372036854775807:=by have:=h.le;have:=h.max;simp only [maxLen] at this;omega
 have hht:ht.toNat < 4294967296:=ht.toNat_lt
 have hno:∀{w:World},¬(1≤d∧d≤16∧(s.l.length:Int)≤d+1∧s.l.length≤ht.toNat)→Chg N0 w0 w→∀{v:Value},v= .tuple #[.pointer none,i64 1]→(chS d ht s.l=false∧Ending.returned v= .returned (.tuple #[.pointer none,i64 1])∧Chg N0 w0 w)∨(chS d ht s.l=true∧∃b W,W.l.map Blk.p=s.l.map Blk.p∧Ending.returned v= .returned (.tuple #[ptr b,i64 0])∧Made (star (chlRs b ⟨d,ht,W⟩)) w0 w):=fun hn hc v hv=>by
  subst hv
  exact .inl ⟨by unfold chS;rw [decide_eq_false hn];rfl,rfl,hc⟩
 by_cases hf:1≤d∧d≤16
 ·have hfi:=fun w=>fits_any w d
  rw [decide_eq_true hf] at hfi
  refine calls_x (args:= [_,_,_]) tabOk Tryz.func61 Tryz.ntmps61 Tryz.results61 rfl (Nat.le_of_ble_eq_true rfl) ?_
  ((conv=>whnf);repeat' ((first|((with_reducible refine br_id ?_);first|(with_reducible refine br_t ?_)|(with_reducible refine br_f ?_)|(with_reducible refine br_not ?_)|((with_reducible refine br_dec (fun hx=>?_) (fun hx=>?_))<;>(try (exfalso;first|omega|contradiction))))|((with_reducible refine ar_id ?_);first|(refine ar_i64 (by omega) ?_)|(refine ar_u64 (by omega) ?_))|((with_reducible refine al_id ?_);(refine al_cel hp ?_;clear hp;intro bb w hp))|((with_reducible refine gen_id ?_);first|(apply gen_build;exact rfl;exact rfl)|(apply gen_len;exact rfl;exact rfl;assumption))|((with_reducible refine cl_id ?_);((refine cl_eq ((hfi _)) rfl rfl ?_;rintro e w ⟨rfl,hcc⟩;replace hp:=hp.call0 hcc;refine ⟨_,rfl,?_⟩))))<;>(conv=>whnf)))
  iterate 4 (try (refine ps_val (v':= .tuple #[.pointer none,i64 1]) rfl (hno (by omega) hp.chg rfl)))
  have hlen:(s.l.length:Int)≤d+1:=by omega
  have hle:s.l.length≤ht.toNat:=by omega
  have hdec:chS d ht s.l=(List.range s.l.length).all (winAt s.l):=by unfold chS;rw [decide_eq_true ⟨hf.1,hf.2,hlen,hle⟩,Bool.true_and]
  obtain ⟨b8,hb8⟩:∃b,b=bb:=⟨_,rfl⟩
  subst hb8
  have hp0:Hp N0 w0 w (cel b8 159 (Chn.c ⟨d,0,Sl.nil⟩).toArray::winRs Sl.nil):=(hp.nilRow 54 65 Blk.c).perm (.swap ..)
  clear hp
  refine lp_inv (α:=Nat×Sl Blk) (fun a=> [(1,u32 ht),(8,ptr b8),(32,s.v),(33,i64 s.l.length),(34,i64 a.1)]) (fun a w=>a.1≤s.l.length∧a.2.l.map Blk.p=(s.l.take a.1).map Blk.p∧(∀k,k < a.1→winAt s.l k=true)∧Hp N0 w0 w (cel b8 159 (Chn.c ⟨d,0,a.2⟩).toArray::winRs a.2)) (fun a=>s.l.length - a.1) (0,Sl.nil) (by (repeat' (first|exact trivial|(refine ⟨rfl,?_⟩)))) ⟨by omega,rfl,fun k hk=>absurd hk (by omega),hp0⟩ ?_
  clear hp0
  rintro ⟨i,W⟩ e0 w ⟨hi,hW,hall,hp⟩
  dsimp only at hi hW hall hp ⊢
  have hWl:W.l.length=i:=by
   have:=congrArg List.length hW
   rw [List.length_map,List.length_map,List.length_take] at this
   omega
  have hWtx:∀c∈W.l,c.tx.l.length≤32:=fun c hc=>by
   have h1:c.p∈(s.l.take i).map Blk.p:=hW▸List.mem_map_of_mem hc
   obtain ⟨c',hc',he⟩:=List.mem_map.1 h1
   have h2:=winAt_tx hall c' hc'
   have h3:c'.tx.l=c.tx.l:=congrArg BlkP.txs he
   rw [←h3]
   exact h2
  rcases Nat.lt_or_ge i s.l.length with hlt|hge
  ·obtain ⟨b,o,y,hA,hbb,hrow,hyy⟩:=h.has hlt
   have hmem:=List.mem_of_getElem? hyy
   have hya:=htx y hmem
   have hnx:=nextOk_at hW hyy
   have hcw:∀{w:World} {r:Res},Hp N0 w0 w (r::cel b8 159 (Chn.c ⟨d,0,W⟩).toArray::winRs W)→ChW w b8 ⟨d,0,W⟩:=fun {w r} hp=>by
    refine ⟨hp.cel_get (j:=1) rfl,⟨hp.row (j:=2) rfl,fun c hc=>rowR_at (e:=44) (hp.ok (btxR c) ?_)⟩,hf,by show W.l.length≤17;omega,hWtx⟩
    exact List.mem_cons_of_mem _ (List.mem_cons_of_mem _ (List.mem_cons_of_mem _ (List.mem_map_of_mem hc)))
   ((conv=>whnf);repeat' ((first|((with_reducible refine br_id ?_);((with_reducible refine br_dec (fun hx=>?_) (fun hx=>?_))<;>(try (exfalso;first|omega|contradiction))))|((with_reducible refine cn_id ?_);(refine cn rfl ?_))|((with_reducible refine ldn_id ?_);first|((refine ldn_rowx hp hB ‹_› ‹_› _ rfl ‹_› rfl ?_))|(apply lda_hs hp;(focus repeat' constructor);exact rfl))|((with_reducible refine al_id ?_);(refine al_cel hp ?_;clear hp;intro bb w hp))|((with_reducible refine st_id ?_);(apply sta_hs hp;(focus repeat' constructor);exact rfl;exact rfl;clear hp;intro w hp;(try dsimp only [List.set] at hp)))|((with_reducible refine gen_id ?_);((refine gen_ixs rfl rfl ‹_› rfl rfl (by omega) ?_))))<;>(conv=>whnf)))
   refine cl_eq (cmayW_any (hcw hp) rfl (hya.keep hp.chg hB)) rfl rfl ?_
   rintro e w ⟨E,hE,rfl,hcc⟩
   replace hp:=hp.call0 hcc
   refine ⟨_,rfl,?_⟩
   rw [hnx] at hE
   by_cases hE0:E=0
   ·subst hE0
    have hwi:winAt s.l i=true:=by rw [←hE];rfl
    have hytx:y.tx.l.length≤32:=by
     refine winAt_tx (l:=s.l) (n:=i+1) (fun k hk=>?_) y ?_
     ·rcases Nat.lt_or_ge k i with h1|h1
      ·exact hall k h1
      ·obtain rfl:k=i:=by omega
       exact hwi
     ·rw [List.take_add_one,hyy]
      simp
    ((conv=>whnf);repeat' ((first|((with_reducible refine br_id ?_);((with_reducible refine br_ne (fun hx=>?_) (fun hx=>?_))<;>(try (exfalso;first|omega|contradiction))))|((with_reducible refine ld_id ?_);(apply ld_hs hp;(focus repeat' constructor);exact rfl))|((with_reducible refine ldn_id ?_);(apply lda_hs hp;(focus repeat' constructor);exact rfl))|((with_reducible refine dr_id ?_);((refine dr_autos [] 8 tabOk (by kernel_rfl) (by decide+kernel) ?_);replace hp:=hp.drew)))<;>(conv=>whnf)))
    refine cl_eq (copy_any (hya.keep hp.chg hB) (by omega)) rfl rfl ?_
    rintro e w ⟨t,hs,rfl,hm⟩
    replace hp:=hp.add hm
    replace hm:=hm.chg
    refine ⟨_,rfl,?_⟩
    ((conv=>whnf);repeat' ((first|((with_reducible refine ar_id ?_);(refine ar_i64 (by omega) ?_))|((with_reducible refine cn_id ?_);first|(refine cn rfl ?_)|(refine cn ‹_› ?_))|((with_reducible refine st_id ?_);(apply st_hs hp;(focus repeat' constructor);exact rfl;exact rfl;clear hp;intro w hp;(try dsimp only [List.set] at hp)))|((with_reducible refine gen_id ?_);first|((refine gen_bs rfl hp el_blkS Blk.c [{y with tx:=t}] [Blk.v {y with tx:=t}] rfl rfl rfl (fun _ hh=>by simp at hh;subst hh;rfl) (by omega) ?_);clear hp;intro br w hp)|((refine gen_app (s:=W) rfl hp 4 rfl el_blkS rfl ⟨some ⟨br,0,none⟩,1, [{y with tx:=t}]⟩ rfl (hp.row (j:=0) rfl) (fun _ _=>rfl) blk_oneS (by simp only [List.length_cons,List.length_nil];omega) (by simp only [maxLen,List.length_cons,List.length_nil];omega) ?_);clear hp;intro A2 c2 w hp;dsimp only [List.set] at hp)))<;>(conv=>whnf)))
    refine lp_next (i+1,⟨A2,c2,W.l++ [{y with tx:=t}]⟩) (by show s.l.length - (i+1) < s.l.length - i;omega) (by (repeat' (first|exact trivial|(refine ⟨rfl,?_⟩)))) ⟨by show i+1≤_;omega,?_,?_,?_⟩
    ·show (W.l++ [_]).map Blk.p=_
     rw [List.take_add_one,hyy,List.map_append,List.map_append,hW]
     simp [Blk.p,hs]
    ·intro k hk
     rcases Nat.lt_or_ge k i with h1|h1
     ·exact hall k h1
     ·have hk':k < i+1:=hk
      obtain rfl:k=i:=by omega
      exact hwi
    ·have h1:=hp.tail.sub (rs':=_::_::_::W.l.map btxR) (List.Sublist.cons_cons _ (List.Sublist.cons _ (List.Sublist.refl _)))
     have h2:=h1.perm (List.perm_append_singleton _ _).symm
     show Hp N0 w0 w (_::_::(W.l++ [_]).map btxR)
     rw [List.map_append]
     exact h2
   ·have hwi:winAt s.l i=false:=by rw [←hE,decide_eq_false hE0]
    ((conv=>whnf);repeat' (((with_reducible refine br_id ?_);((with_reducible refine br_ne (fun hx=>?_) (fun hx=>?_))<;>(try (exfalso;first|omega|contradiction))))<;>(conv=>whnf)))
    refine ps_val (v':= .tuple #[.pointer none,i64 1]) rfl (.inl ⟨?_,rfl,hp.chg⟩)
    rw [hdec,List.all_eq_false]
    exact ⟨i,List.mem_range.2 hlt,by rw [hwi];simp⟩
  ·rw [List.take_of_length_le hge] at hW
   ((conv=>whnf);repeat' ((first|((with_reducible refine br_id ?_);((with_reducible refine br_dec (fun hx=>?_) (fun hx=>?_))<;>(try (exfalso;first|omega|contradiction))))|((with_reducible refine cn_id ?_);(refine cn rfl ?_))|((with_reducible refine st_id ?_);(apply st_hs hp;(focus repeat' constructor);exact rfl;exact rfl;clear hp;intro w hp;(try dsimp only [List.set] at hp))))<;>(conv=>whnf)))
   refine ps_val (v':= .tuple #[ptr b8,i64 0]) rfl (.inr ⟨?_,b8,W,hW,rfl,?_⟩)
   ·rw [hdec,List.all_eq_true]
    exact fun k hk=>hall k (by have:=List.mem_range.1 hk;omega)
   ·have h1:=(hp.perm (List.perm_append_comm (l₁:= [_]) (l₂:=winRs W))).fold (winRs W).length
    rw [List.take_left,List.drop_left] at h1
    exact (h1.perm (.swap ..)).made (.refl _)
 ·have hfi:=fun w=>fits_any w d
  rw [decide_eq_false hf] at hfi
  refine calls_x (args:= [_,_,_]) tabOk Tryz.func61 Tryz.ntmps61 Tryz.results61 rfl (Nat.le_of_ble_eq_true rfl) ?_
  ((conv=>whnf);repeat' ((first|((with_reducible refine br_id ?_);first|(with_reducible refine br_t ?_)|(with_reducible refine br_f ?_)|(with_reducible refine br_not ?_))|((with_reducible refine cl_id ?_);((refine cl_eq ((hfi _)) rfl rfl ?_;rintro e w ⟨rfl,hcc⟩;replace hp:=hp.call0 hcc;refine ⟨_,rfl,?_⟩))))<;>(conv=>whnf)))
  exact ps_val (v':= .tuple #[.pointer none,i64 1]) rfl (hno (by omega) hp.chg rfl)
end Go.Proofs.YteabebmlclgakaaGreat
/- SesP: lists of sessions, by ids; the document's Find. No condition. -/
namespace Go.Proofs.YteabebmlclgakaaGreat
open Go.RowKit
set_option maxRecDepth 100000
set_option maxHeartbeats 4000000
def byId (W:List Sess) (id:UInt32):Option Sess:=W.find? fun s=>decide (s.id=id)
theorem byId_mem {W:List Sess} {id:UInt32} {s:Sess} (h:byId W id=some s):s∈W∧s.id=id:=⟨List.mem_of_find?_eq_some h,by simpa using List.find?_some h⟩
theorem byId_none {W:List Sess} {id:UInt32} (h:byId W id=none):∀s∈W,s.id≠id:=fun s hs=>by
 have:=List.find?_eq_none.1 h s hs
 simpa using this
def fndI (W:List Sess) (id:UInt32):Int:=if (byId W id).isSome then (W.findIdx fun s=>decide (s.id=id):Nat) else -1
theorem fnd_cases (W:List Sess) (id:UInt32):(∃i x,W[i]? =some x∧x.id=id∧(∀y∈W.take i,y.id≠id)∧byId W id=some x∧fndI W id=(i:Nat))∨((∀y∈W,y.id≠id)∧byId W id=none∧fndI W id= -1):=by
 cases hb:byId W id with
 |none=>exact .inr ⟨byId_none hb,rfl,by unfold fndI;rw [hb];rfl⟩
 |some x=>
  obtain ⟨h1,h2⟩:=byId_mem hb
  have hlt:(W.findIdx fun s=>decide (s.id=id)) < W.length:=List.findIdx_lt_length.2 ⟨x,h1,by simpa using h2⟩
  have hge:decide ((W[W.findIdx fun s=>decide (s.id=id)]).id=id)=true:=List.findIdx_getElem (w:=hlt)
  have hall:∀y∈W.take (W.findIdx fun s=>decide (s.id=id)),y.id≠id:=fun y hy=>by
   obtain ⟨j,hj,rfl⟩:=List.getElem_of_mem hy
   rw [List.length_take] at hj
   rw [List.getElem_take]
   have:=List.not_of_lt_findIdx (p:=fun s:Sess=>decide (s.id=id)) (xs:=W) (i:=j) (by omega)
   simpa using this
  refine .inl ⟨_,_,List.getElem?_eq_getElem hlt,by simpa using hge,hall,?_,by unfold fndI;rw [hb];rfl⟩
  have hsp:W=W.take (W.findIdx fun s=>decide (s.id=id))++W[W.findIdx fun s=>decide (s.id=id)]::W.drop ((W.findIdx fun s=>decide (s.id=id))+1):=by
   rw [List.getElem_cons_drop,List.take_append_drop]
  rw [←hb]
  unfold byId
  conv=>lhs;rw [hsp]
  rw [List.find?_append,List.find?_eq_none.2 fun y hy=>by simpa using hall y hy,List.find?_cons,hge]
  rfl
theorem rfind23_any {B:Nat} {w0:World} {L:Sl Sess} (h:SlAt B w0 Sess.c 4 L) (id:UInt32) (hm:L.l.length≤10000):Calls Tryz.prog 98 #[L.v,u32 id] w0 fun e w'=>e= .returned (i64 (fndI L.l id))∧Chg N0 w0 w':=by
 have hp:=Hp.start (S:=N0) w0
 have hB:∀b,N0 b→B≤b:=fun _ hh=>hh.elim
 have us:=Tryz.underlying27
 refine calls_x (args:= [_,_]) tabOk Tryz.func98 Tryz.ntmps98 Tryz.results98 rfl (Nat.le_of_ble_eq_true rfl) ?_
 ((conv=>whnf);repeat' ((first|((with_reducible refine br_id ?_);first|(with_reducible refine br_t ?_)|(with_reducible refine br_f ?_)|(with_reducible refine br_not ?_)|((with_reducible refine br_dec (fun hx=>?_) (fun hx=>?_))<;>(try (exfalso;first|omega|contradiction)))|((with_reducible refine br_eq (fun hx=>?_) (fun hx=>?_))<;>(try (exfalso;first|omega|contradiction)))|((with_reducible refine br_ne (fun hx=>?_) (fun hx=>?_))<;>(try (exfalso;first|omega|contradiction)))|((with_reducible refine br_s (fun hx=>?_) (fun hx=>?_))<;>(try (exfalso;first|omega|contradiction))))|((with_reducible refine ar_id ?_);first|(refine ar_i64 (by omega) ?_)|(refine ar_u32 (by omega) ?_)|(refine ar_u64 (by omega) ?_)|(refine ar_u8 (by omega) ?_))|((with_reducible refine cn_id ?_);first|(refine cn rfl ?_)|(refine cn ‹_› ?_)|(refine cn (by omega) ?_)|(refine cn (Chg.refl _ _) ?_))|((with_reducible refine ld_id ?_);first|(apply ld_hs hp;(focus repeat' constructor);exact rfl)|(refine ld_of ‹_› ?_))|((with_reducible refine ldn_id ?_);first|(apply lda_hs hp;(focus repeat' constructor);exact rfl)|(apply ldn_hs hp;(focus repeat' constructor);exact rfl;exact rfl))|((with_reducible refine al_id ?_);(refine al_cel hp ?_;clear hp;intro bb w hp))|((with_reducible refine st_id ?_);first|(apply sta_hs hp;(focus repeat' constructor);exact rfl;exact rfl;clear hp;intro w hp;(try dsimp only [List.set] at hp))|(apply st_hs hp;(focus repeat' constructor);exact rfl;exact rfl;clear hp;intro w hp;(try dsimp only [List.set] at hp)))|((with_reducible refine gen_id ?_);first|(apply gen_build;exact rfl;exact rfl)|(apply gen_len;exact rfl;exact rfl;assumption)|(apply gen_min;exact rfl;exact rfl;exact rfl)|(apply gen_max;exact rfl;exact rfl;exact rfl)|(apply gen_ix;exact rfl;exact rfl;exact rfl;exact rfl;omega)|(apply gen_ixa;exact rfl;exact rfl;exact rfl;exact rfl;omega))|((with_reducible refine dr_id ?_);first|(refine dr_auto tabOk (by kernel_rfl) (by decide+kernel) ?_;(try replace hp:=hp.drew))|(refine dr_autog tabOk (by kernel_rfl) (by decide+kernel) ?_;(try replace hp:=hp.drew))|(refine dr_autot tabOk (by kernel_rfl) (by decide+kernel) ?_;(try replace hp:=hp.drew)))|((with_reducible refine fk_id ?_);(refine fk_mk ?_ ?_))|((with_reducible refine rd_id ?_);first|(apply rd_len;exact rfl;exact rfl;assumption)|(apply rd_ix;exact rfl;exact rfl;exact rfl;exact rfl;omega)))<;>(conv=>whnf)))
 refine lp_inv (α:=Nat) (fun i=> [(0,L.v),(1,u32 id),(5,i64 i)]) (fun i w=>i≤L.l.length∧(∀y∈L.l.take i,y.id≠id)∧Hp N0 w0 w []) (fun i=>L.l.length - i) 0 (by (repeat' (first|exact trivial|(refine ⟨rfl,?_⟩)))) ⟨by omega,by simp,hp⟩ ?_
 clear hp
 rintro i e0 w ⟨hi,hall,hp⟩
 dsimp only at hi hall hp ⊢
 rcases Nat.lt_or_ge i L.l.length with hlt|hge
 ·obtain ⟨b1,o1,x,hA,hb1,hrow,hxx⟩:=h.has hlt
  by_cases hxi:x.id=id
  ·have hfi:fndI L.l id=(i:Nat):=by
    rcases fnd_cases L.l id with ⟨j,y,h1,h2,h3,h4,h5⟩|⟨h1,_⟩
    ·rw [h5]
     rcases Nat.lt_trichotomy i j with h6|h6|h6
     ·exact absurd hxi (h3 x (List.mem_of_getElem? (l:=L.l.take j) (i:=i) (by rw [List.getElem?_take_of_lt h6];exact hxx)))
     ·rw [h6]
     ·exact absurd h2 (hall y (List.mem_of_getElem? (l:=L.l.take i) (i:=j) (by rw [List.getElem?_take_of_lt h6];exact h1)))
    ·exact absurd hxi (h1 x (List.mem_of_getElem? hxx))
   rw [hfi]
   subst hxi
   ((conv=>whnf);repeat' ((first|((with_reducible refine br_id ?_);first|((with_reducible refine br_dec (fun hx=>?_) (fun hx=>?_))<;>(try (exfalso;first|omega|contradiction)))|((with_reducible refine br_eq (fun hx=>?_) (fun hx=>?_))<;>(try (exfalso;first|omega|contradiction))))|((with_reducible refine ld_id ?_);((refine ld_row hp hB ‹_› ‹_› _ _ rfl ‹_› (by rfl) ?_)))|((with_reducible refine gen_id ?_);first|((refine gen_ixs rfl rfl ‹_› rfl rfl (by omega) ?_))|(apply gen_len;exact rfl;exact rfl;assumption)))<;>(conv=>whnf)))
   all_goals exact ps_val (v':=i64 i) rfl ⟨rfl,hp.chg⟩
  ·have hne:x.id.toNat≠id.toNat:=fun he=>hxi (UInt32.toNat_inj.1 he)
   ((conv=>whnf);repeat' ((first|((with_reducible refine br_id ?_);first|((with_reducible refine br_dec (fun hx=>?_) (fun hx=>?_))<;>(try (exfalso;first|omega|contradiction)))|((with_reducible refine br_eq (fun hx=>?_) (fun hx=>?_))<;>(try (exfalso;first|omega|contradiction))))|((with_reducible refine ar_id ?_);(refine ar_i64 (by omega) ?_))|((with_reducible refine ld_id ?_);((refine ld_row hp hB ‹_› ‹_› _ _ rfl ‹_› (by rfl) ?_)))|((with_reducible refine gen_id ?_);first|((refine gen_ixs rfl rfl ‹_› rfl rfl (by omega) ?_))|(apply gen_len;exact rfl;exact rfl;assumption)))<;>(conv=>whnf)))
   all_goals
    refine lp_next (i+1) (by show L.l.length - (i+1) < L.l.length - i;omega) (by (repeat' (first|exact trivial|(refine ⟨rfl,?_⟩)))) ⟨by show i+1≤_;omega,fun y hy=>?_,hp⟩
    rw [List.take_add_one,hxx] at hy
    rcases List.mem_append.1 hy with hy|hy
    ·exact hall y hy
    ·simp at hy
     subst hy
     exact hxi
 ·have hfi:fndI L.l id= -1:=by
   rw [List.take_of_length_le hge] at hall
   rcases fnd_cases L.l id with ⟨j,y,h1,h2,_⟩|⟨_,_,h3⟩
   ·exact absurd h2 (hall y (List.mem_of_getElem? h1))
   ·exact h3
  rw [hfi]
  ((conv=>whnf);repeat' ((first|((with_reducible refine br_id ?_);((with_reducible refine br_dec (fun hx=>?_) (fun hx=>?_))<;>(try (exfalso;first|omega|contradiction))))|((with_reducible refine gen_id ?_);(apply gen_len;exact rfl;exact rfl;assumption)))<;>(conv=>whnf)))
  all_goals exact ps_val (v':=i64 (-1)) rfl ⟨rfl,hp.chg⟩
end Go.Proofs.YteabebmlclgakaaGreat
/- Job2: the table of jobs: Add. No condition. -/
namespace Go.Proofs.YteabebmlclgakaaGreat
open Go.RowKit
set_option maxRecDepth 100000
set_option maxHeartbeats 2000000
theorem rd_pneq {P:Program} {ρ:Operand→Value} {o:Oper} {w:World} {g:Value→Prop} {t t2 e:TypeId} {x y:Operand} (hop:o.op= .binOp .neq t x y t2) {a:Option Addr} (hx:ρ x= .pointer a) (hy:ρ y= .pointer none) (ht:P.underlying t=some (.pointer e)) {q:Bool} (hq:(!a.isNone)=q) (hk:g (.bool q)):Rd P ρ o w g:=by
 subst hq
 refine ⟨_,fun w' _=>?_,hk⟩
 have hg:eqGuard .neq t x y (ρ x) (ρ y)=pure ():=by rw [hx];exact eqGuard_at_pointer ..
 have h':=(run_eql_of (P:=P) (w:=w') (t:=t) (eqIn_ptr 9999 ht a) (fun op=>by cases op<;>rfl)).2
 rw [hx,hy] at hg
 simp only [execOp,hop,hx,hy,hg,Sem.run_bind,Sem.run_pure,Result.andThen_ok,h']
structure PayOut (S:Nat→Prop) (B:Nat) (w:World) (p:Payload):Prop where
 row:SlOut S B w Tier.c 2 p
 tx:∀t∈p.l,SlOut S B w u8L 1 t.tx
theorem PayOut.keep {S:Nat→Prop} {B:Nat} {w w':World} {p:Payload} (h:PayOut S B w p) (hc:Chg S w w'):PayAt B w' p:=⟨h.row.keep hc,fun t ht=>(h.tx t ht).keep hc⟩
theorem ol_new {l:List (Key×EntB)} {k:Key} {x:EntB} (h:l.lookup k=none):mput (ol l) k (some x)=ol (l++ [(k,x)]):=by
 have hn:k∉(ol l).map (·.1):=by
  rw [ol_keys]
  intro hm
  obtain ⟨p,hp,hk⟩:=List.mem_map.1 hm
  rw [List.lookup_eq_none_iff] at h
  have:=h p hp
  rw [bne_iff_ne] at this
  exact this hk.symm
 unfold mput
 rw [if_neg hn]
 simp [ol]
def jaddE (l:List (Key×EntB)) (j:Job):Int:=if rightJ j=false then 1 else if (l.lookup j.key).isSome=true then 6 else 0
theorem JtI.add {ord:List Key} {l:List (Key×EntB)} (h:JtI ord l) {j:Job} {x:EntB} {r:Payload} (hl:l.lookup j.key=none) (hr:rightJ j=true) (hrp:r.l.map tk=j.pay.l.map tk) (hx:x.job={j with pay:=r}) (hi:x.ids.l=idsP j.pay) (hrr:rightJ {j with pay:=r}=true) (hii:idsP r=idsP j.pay):JtI (ord++ [j.key]) (l++ [(j.key,x)]):=by
 have hn:j.key∉l.map (·.1):=by
  intro hm
  obtain ⟨p,hp,hk⟩:=List.mem_map.1 hm
  rw [List.lookup_eq_none_iff] at hl
  have:=hl p hp
  rw [bne_iff_ne] at this
  exact this hk.symm
 refine ⟨by rw [h.ord];simp,?_,?_,?_,?_⟩
 ·rw [List.map_append,List.nodup_append]
  refine ⟨h.nd,by simp,fun a ha b hb=>?_⟩
  simp at hb
  subst hb
  exact fun e=>hn (e▸ha)
 all_goals
  intro p hp
  rcases List.mem_append.1 hp with hp|hp
 ·exact h.key p hp
 ·simp at hp;subst hp;rw [hx]
 ·exact h.right p hp
 ·simp at hp;subst hp;rw [hx];exact hrr
 ·exact h.ids p hp
 ·simp at hp;subst hp;rw [hx,hi,hii]
theorem ids_congr {p q:Payload} (h:p.l.map tk=q.l.map tk):idsP p=idsP q:=by
 have e:∀l:List Tier,(l.map fun t=>shaV t.tx.l)=(l.map tk).map fun x=>shaV x.2:=fun l=>by rw [List.map_map];rfl
 show (p.l.map fun t=>shaV t.tx.l)=q.l.map fun t=>shaV t.tx.l
 rw [e,e,h]
theorem tierOk_congr {l m:List Tier} (h:l.map tk=m.map tk) (i:Nat):tierOk l i=tierOk m i:=by
 have hg:∀j,(l[j]?).map tk=(m[j]?).map tk:=fun j=>by rw [←List.getElem?_map,←List.getElem?_map,h]
 have e:∀l:List Tier,tierOk l i=(match (l[i]?).map tk with
   |some t=>decide (1≤t.2.length∧t.2.length≤64) && (match i with
    |0=>true
    |k+1=>match (l[k]?).map tk with
     |some s=>decide (s.1.toNat < t.1.toNat)
     |none=>true)
   |none=>true):=fun l=>by
  unfold tierOk
  cases l[i]? with
  |none=>rfl
  |some t=>
   cases i with
   |zero=>rfl
   |succ k=>
    dsimp only [Option.map_some]
    cases l[k]? <;>rfl
 rw [e,e,hg]
 cases i with
 |zero=>rfl
 |succ k=>dsimp only;rw [hg]
theorem rightP_congr {p q:Payload} (h:p.l.map tk=q.l.map tk):rightP p=rightP q:=by
 have hl:p.l.length=q.l.length:=by have:=congrArg List.length h;simpa using this
 unfold rightP
 rw [hl]
 congr 1
 refine congrArg (fun f=>(List.range q.l.length).all f) (funext fun i=>tierOk_congr h i)
theorem rightJ_congr {j:Job} {r:Payload} (h:r.l.map tk=j.pay.l.map tk):rightJ {j with pay:=r}=rightJ j:=by
 have hl:r.l.length=j.pay.l.length:=by have:=congrArg List.length h;simpa using this
 unfold rightJ
 rw [rightP_congr (p:=r) (q:=j.pay) h]
 show (rightP j.pay && decide (_∧_∧j.live < (r.l.length:Int)∧_))=_
 rw [hl]
theorem Hp.fold3 {S:Nat→Prop} {w0 w:World} {a c:Res} {P rest:List Res} (h:Hp S w0 w (a::c::star P::rest)):Hp S w0 w (star (a::c::P)::rest):=by
 have h1:Hp S w0 w (P++(a::c::rest)):=(h.perm (((List.Perm.swap ..).cons _).trans (.swap ..))).unfold
 have h2:Hp S w0 w ((a::c::P)++rest):=h1.perm (List.perm_middle.trans (List.perm_middle.cons _))
 have h3:=h2.fold (a::c::P).length
 rwa [List.take_left,List.drop_left] at h3
theorem Hp.tail_swap {S:Nat→Prop} {w0 w:World} {a c:Res} {rest:List Res} (h:Hp S w0 w (a::c::rest)):Hp S w0 w (a::rest):=(h.perm (.swap ..)).tail
theorem jadd_any {B:Nat} {w0:World} {b m:Nat} {ord:Sl Key} {l:List (Key×EntB)} (h:(star (jtRs b m ord l)).ok w0) (hI:JtI ord.l l) (hmany:l.length≤100000) {j:Job} (hj:PayOut (star (jtRs b m ord l)).dom B w0 j.pay) (hBw:B≤w0.heap.size) (hlv: -9223372036854775808≤j.live∧j.live≤9223372036854775807):
  Calls Tryz.prog 120 #[ptr b,j.v] w0 fun e w'=>∃ord' l',e= .returned (i64 (jaddE l j))∧JtI ord'.l l'∧(jaddE l j≠0→l'=l)∧(jaddE l j=0→∃x:EntB,l'=l++ [(j.key,x)]∧x.job.p=j.p)∧Mut (star (jtRs b m ord l)) (star (jtRs b m ord' l')) w0 w':=by
 have hp:=Hp.open h
 have hT:=jtAt h
 have um:=Tryz.underlying179
 have up:=Tryz.underlying194
 have hJ:∀{w:World},Chg (star (jtRs b m ord l)).dom w0 w→Calls Tryz.prog 193 #[j.v] w fun e w'=>e= .returned (.bool (rightJ j))∧Chg N0 w w':=fun hc=>jright_any (hj.keep hc) hlv
 obtain ⟨q,hq⟩:∃q,rightJ j=q:=⟨_,rfl⟩
 rw [hq] at hJ
 cases q with
 |false=>
  have hE:jaddE l j=1:=if_pos hq
  rw [hE]
  refine calls_x (args:= [_,_]) tabOk Tryz.func120 Tryz.ntmps120 Tryz.results120 rfl (Nat.le_of_ble_eq_true rfl) ?_
  ((conv=>whnf);repeat' ((first|((with_reducible refine br_id ?_);first|(with_reducible refine br_f ?_)|(with_reducible refine br_not ?_))|((with_reducible refine ldn_id ?_);(apply lda_hs hp;(focus repeat' constructor);exact rfl))|((with_reducible refine al_id ?_);(refine al_cel hp ?_;clear hp;intro bb w hp))|((with_reducible refine cl_id ?_);first|((refine cl_eq ((jabsent_any (cell_of_heap (hp.cel_get (j:=1) rfl) rfl))) rfl rfl ?_;rintro e w ⟨rfl,hcc⟩;replace hp:=hp.call0 hcc;refine ⟨_,rfl,?_⟩))|((refine cl_eq ((hJ hp.chg)) rfl rfl ?_;rintro e w ⟨rfl,hcc⟩;replace hp:=hp.call0 hcc;refine ⟨_,rfl,?_⟩))))<;>(conv=>whnf)))
  exact ps_val (v':=i64 1) rfl ⟨ord,l,rfl,hI,fun _=>rfl,fun hh=>absurd hh (by decide),hp.tail.shut (.refl _)⟩
 |true=>
 have hne:¬rightJ j=false:=by rw [hq];simp
 cases hlk:l.lookup j.key with
 |some x=>
  have hE:jaddE l j=6:=by unfold jaddE;rw [if_neg hne,hlk];rfl
  rw [hE]
  have hv:((ol l).lookup j.key).getD none=some x:=by rw [(ol_lookup _ _).1,hlk]
  refine calls_x (args:= [_,_]) tabOk Tryz.func120 Tryz.ntmps120 Tryz.results120 rfl (Nat.le_of_ble_eq_true rfl) ?_
  ((conv=>whnf);repeat' ((first|((with_reducible refine br_id ?_);first|(with_reducible refine br_t ?_)|(with_reducible refine br_f ?_)|(with_reducible refine br_not ?_))|((with_reducible refine ld_id ?_);(apply ld_hs hp;(focus repeat' constructor);exact rfl))|((with_reducible refine ldn_id ?_);first|(apply lda_hs hp;(focus repeat' constructor);exact rfl)|(apply ldn_hs hp;(focus repeat' constructor);exact rfl;exact rfl))|((with_reducible refine al_id ?_);(refine al_cel hp ?_;clear hp;intro bb w hp))|((with_reducible refine dr_id ?_);(refine dr_auto tabOk (by kernel_rfl) (by decide+kernel) ?_;(try replace hp:=hp.drew)))|((with_reducible refine cl_id ?_);first|((refine cl_eq ((jabsent_any (cell_of_heap (hp.cel_get (j:=1) rfl) rfl))) rfl rfl ?_;rintro e w ⟨rfl,hcc⟩;replace hp:=hp.call0 hcc;refine ⟨_,rfl,?_⟩))|((refine cl_eq ((hJ hp.chg)) rfl rfl ?_;rintro e w ⟨rfl,hcc⟩;replace hp:=hp.call0 hcc;refine ⟨_,rfl,?_⟩)))|((with_reducible refine rd_id ?_);first|((refine rd_lookM rfl (mapR_ok.1 (hp.get (j:=2) rfl)) rfl keyK um (z:=none) rfl j.key rfl hv ?_))|((refine rd_pneq (q:=true) rfl rfl rfl up rfl ?_))))<;>(conv=>whnf)))
  exact ps_val (v':=i64 6) rfl ⟨ord,l,rfl,hI,fun _=>rfl,fun hh=>absurd hh (by decide),hp.tail.shut (.refl _)⟩
 |none=>
  have hE:jaddE l j=0:=by unfold jaddE;rw [if_neg hne,hlk];rfl
  rw [hE]
  have hv:((ol l).lookup j.key).getD none=none:=by rw [(ol_lookup _ _).1,hlk]
  have hf:=rightP_few (rightJ_pay hq)
  refine calls_x (args:= [_,_]) tabOk Tryz.func120 Tryz.ntmps120 Tryz.results120 rfl (Nat.le_of_ble_eq_true rfl) ?_
  ((conv=>whnf);repeat' ((first|((with_reducible refine br_id ?_);first|(with_reducible refine br_t ?_)|(with_reducible refine br_f ?_)|(with_reducible refine br_not ?_))|((with_reducible refine ld_id ?_);(apply ld_hs hp;(focus repeat' constructor);exact rfl))|((with_reducible refine ldn_id ?_);first|(apply lda_hs hp;(focus repeat' constructor);exact rfl)|(apply ldn_hs hp;(focus repeat' constructor);exact rfl;exact rfl))|((with_reducible refine al_id ?_);(refine al_cel hp ?_;clear hp;intro bb w hp))|((with_reducible refine dr_id ?_);first|(refine dr_auto tabOk (by kernel_rfl) (by decide+kernel) ?_;(try replace hp:=hp.drew))|(refine dr_autog tabOk (by kernel_rfl) (by decide+kernel) ?_;(try replace hp:=hp.drew)))|((with_reducible refine cl_id ?_);first|((refine cl_eq ((jabsent_any (cell_of_heap (hp.cel_get (j:=1) rfl) rfl))) rfl rfl ?_;rintro e w ⟨rfl,hcc⟩;replace hp:=hp.call0 hcc;refine ⟨_,rfl,?_⟩))|((refine cl_eq ((hJ hp.chg)) rfl rfl ?_;rintro e w ⟨rfl,hcc⟩;replace hp:=hp.call0 hcc;refine ⟨_,rfl,?_⟩)))|((with_reducible refine rd_id ?_);first|((refine rd_lookM rfl (mapR_ok.1 (hp.get (j:=2) rfl)) rfl keyK um (z:=none) rfl j.key rfl hv ?_))|((refine rd_pneq (q:=false) rfl rfl rfl up rfl ?_))))<;>(conv=>whnf)))
  refine cl_eq (jown_any (hj.keep hp.chg) (Nat.le_trans hBw hp.chg.size) hf) rfl rfl ?_
  rintro e w ⟨r,hr,rfl,hm⟩
  replace hp:=hp.add hm
  replace hm:=hm.chg
  refine ⟨_,rfl,?_⟩
  ((conv=>whnf);repeat' (((with_reducible refine cn_id ?_);(refine cn ‹_› ?_))<;>(conv=>whnf)))
  obtain ⟨b3,hb3⟩:∃y:Nat,y=bb:=⟨_,rfl⟩
  subst hb3
  refine cl_eq (ids_any (hj.keep hp.chg) (Nat.le_trans hBw hp.chg.size) hf) rfl rfl ?_
  rintro e w ⟨ids,hids,rfl,hm2⟩
  replace hp:=hp.add hm2
  replace hm2:=hm2.chg
  refine ⟨_,rfl,?_⟩
  ((conv=>whnf);repeat' ((first|((with_reducible refine cn_id ?_);(refine cn ‹_› ?_))|((with_reducible refine al_id ?_);(refine al_cel hp ?_;clear hp;intro bb w hp))|((with_reducible refine gen_id ?_);first|((refine gen_build (t:=198) (out:=(EntB.c ⟨0,{j with pay:=r},ids⟩)) rfl (by kernel_rfl) ?_))|((refine gen_put rfl hp 5 rfl rfl keyK um (j.key) rfl ((some (EntB.mk bb {j with pay:=r} ids))) rfl ?_);clear hp;intro w hp)))<;>(conv=>whnf)))
  obtain ⟨x,hx⟩:∃x:EntB,x=⟨bb,{j with pay:=r},ids⟩:=⟨_,rfl⟩
  have hxb:bb=x.b:=by rw [hx]
  have hxj:x.job={j with pay:=r}:=by rw [hx]
  have hxi:x.ids=ids:=by rw [hx]
  have hxc:(EntB.c ⟨0,{j with pay:=r},ids⟩)=EntB.c x:=by rw [hx]
  have hxr:payRs r=payRs x.job.pay:=by rw [hx]
  rw [←hx,ol_new hlk,hxc,hxr,hxb,←hxi] at hp
  have hol:ord.l.length≤100000:=by rw [hI.ord,List.length_map];exact hmany
  have hro:rightJ {j with pay:=r}=true:=by rw [rightJ_congr hr];exact hq
  have hJI:=hI.add hlk hq hr hxj (by rw [hxi];exact hids) hro (ids_congr hr)
  have hpx:x.job.p=j.p:=by rw [hxj];simp [Job.p,hr]
  clear hx hxb hxj hxc hxr hm hm2 hids hxi
  dsimp only [List.set] at hp
  ((conv=>whnf);repeat' ((first|((with_reducible refine cn_id ?_);(refine cn rfl ?_))|((with_reducible refine ld_id ?_);(apply ld_hs hp;(focus repeat' constructor);exact rfl))|((with_reducible refine ldn_id ?_);(apply ldn_hs hp;(focus repeat' constructor);exact rfl;exact rfl))|((with_reducible refine st_id ?_);(apply st_hs hp;(focus repeat' constructor);exact rfl;exact rfl;clear hp;intro w hp;(try dsimp only [List.set] at hp)))|((with_reducible refine gen_id ?_);first|((refine gen_bs rfl hp el_key Key.c [j.key] [j.key.v] rfl rfl rfl (fun _ hh=>by simp at hh;subst hh;rfl) (by omega) ?_);clear hp;intro br w hp)|((refine gen_app (s:=ord) rfl hp 7 rfl el_key rfl ⟨some ⟨br,0,none⟩,1, [j.key]⟩ rfl (hp.row (j:=0) rfl) (fun _ _=>rfl) key_one (by simp only [List.length_cons,List.length_nil];omega) (by simp only [maxLen,List.length_cons,List.length_nil];omega) ?_);clear hp;intro A2 c2 w hp;dsimp only [List.set] at hp))|((with_reducible refine dr_id ?_);(refine dr_auto tabOk (by kernel_rfl) (by decide+kernel) ?_;(try replace hp:=hp.drew))))<;>(conv=>whnf)))
  refine ps_val (v':=i64 0) rfl ⟨⟨A2,c2,ord.l++ [j.key]⟩,l++ [(j.key,x)],rfl,hJI,fun hh=>absurd rfl hh,fun _=>⟨x,rfl,hpx⟩,?_⟩
  have h1:=hp.tail.fold3.tail_swap
  have h2:(l++ [(j.key,x)]).map jentR=l.map jentR++ [jentR (j.key,x)]:=List.map_append
  refine (h1.perm ?_).shut (.refl _)
  unfold jtRs
  rw [h2]
  exact (List.perm_append_singleton _ (_::_::_::l.map jentR)).symm
end Go.Proofs.YteabebmlclgakaaGreat
