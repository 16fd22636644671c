/- MImprintBytes28: parts of the proof of ImprintBytes: Book3, Seen3, SeenP, Seen4, Alive27, See, Seen8. No condition of their own. -/
import Derived.Test.YtpbapnlnheahnaaGreatDoorMImprintBytes27
import Derived.Test.YtpbapnlnheahnaaGreatDoorMImprintBytes23
import Derived.Test.YtpbapnlnheahnaaGreatDoorMImprintBytes21
import Derived.Test.YtpbapnlnheahnaaGreatDoorMImprintBytes11
import Derived.Test.YtpbapnlnheahnaaGreatDoorMImprintBytes8
set_option linter.unusedSimpArgs false
set_option linter.unusedVariables false
namespace Go.Proofs.YtpbapnlnheahnaaGreatDoor
open Go.RowKit
set_option maxRecDepth 100000
set_option maxHeartbeats 4000000
abbrev breRs (bk:Nat) (X:Bk) (m:Nat) (ord:Sl Key) (l:List (Key×EntB)):List Res:= [bkR bk X,star (jtRs X.bj m ord l)]
theorem jt_keys {ord:List Key} {l:List (Key×EntB)} {J:List Job} (hI:JtI ord l) (h:l.map (fun p=>p.2.job.p)=J.map Job.p):l.map (·.1)=J.map (·.key):=by
 have h1:l.map (·.1)=(l.map (fun p=>p.2.job.p)).map (·.key):=by
  rw [List.map_map]
  exact List.map_congr_left fun p hp=>(hI.key p hp).symm
 rw [h1,h,List.map_map]
 rfl
theorem lookup_iff {l:List (Key×EntB)} {k:Key}:(l.lookup k).isSome=decide (k∈l.map (·.1)):=by
 cases h:l.lookup k with
 |none=>
  rw [List.lookup_eq_none_iff] at h
  refine (decide_eq_false fun hm=>?_).symm
  obtain ⟨p,hp,hk⟩:=List.mem_map.1 hm
  have:=h p hp
  rw [bne_iff_ne] at this
  exact this hk.symm
 |some x=>exact (decide_eq_true (List.mem_map.2 ⟨_,lku_mem h,rfl⟩)).symm
theorem rd_max {P:Program} {ρ:Operand→Value} {o:Oper} {w:World} {g:Value→Prop} {t t':TypeId} {x y:Operand} (hop:o.op= .call {callee:= .builtin .max,args:= #[x,y],argTypes:= #[t,t']}) {k k':IntKind} {m n:Int} (hx:ρ x= .int k m) (hy:ρ y= .int k' n) (hk:g (.int k (max m n))):Rd P ρ o w g:=by
 have e:(if m < n then n else m)=max m n:=by simp only [Int.max_def];split<;>split<;>omega
 exact ⟨_,fun w' _=>by simp [execOp,hop,resolve,invoke,builtin,Builtin.max_,Builtin.max2,hx,hy,e],hk⟩
theorem breaches_any {B:Nat} {w0:World} {bk m:Nat} {X:Bk} {x:Sta} (h:(star (breRs bk X m Sl.nil [])).ok w0) (hs:StaAt B w0 x) (hB:∀k,(star (breRs bk X m Sl.nil [])).dom k→B≤k) (hBw:B≤w0.heap.size) (hf:FewI x) (hlv:∀j∈x.jobs.l, -9223372036854775808≤j.live∧j.live≤9223372036854775807) (hI:JtI [] []):
  Calls Tryz.prog 107 #[ptr bk,x.v] w0 fun e w'=>∃q ord l,q=jobS x.ht x.jobs.l∧e= .returned (.bool q)∧(q=true→JtI ord.l l∧l.map (fun p=>p.2.job.p)=x.jobs.l.map Job.p)∧Mut (star (breRs bk X m Sl.nil [])) (star (breRs bk X m ord l)) w0 w':=by
 have hp:=Hp.open h
 have u4:=Tryz.underlying29
 have f4:=hf.jobs
 refine calls_x (args:= [_,_]) tabOk Tryz.func107 Tryz.ntmps107 Tryz.results107 rfl (Nat.le_of_ble_eq_true rfl) ?_
 ((conv=>whnf);repeat' ((first|((with_reducible apply ld_id);apply ld_hs hp;(focus repeat' constructor);exact rfl)|((with_reducible apply al_id);refine al_cel hp ?_;clear hp;intro bb w hp)|((with_reducible apply gen_id);apply gen_len;exact rfl;exact rfl;assumption))<;>(conv=>whnf)))
 obtain ⟨b3,hb3⟩:∃b,b=bb:=⟨_,rfl⟩
 subst hb3
 refine lp_inv (α:=Nat×Sl Key×List (Key×EntB)) (fun a=> [(0,ptr bk),(3,ptr b3),(8,x.jobs.v),(9,i64 x.jobs.l.length),(10,i64 a.1)]) (fun a w=>a.1≤x.jobs.l.length∧(∀k,k < a.1→jobAt x.ht x.jobs.l k=true)∧JtI a.2.1.l a.2.2∧a.2.2.map (fun p=>p.2.job.p)=(x.jobs.l.take a.1).map Job.p∧Hp (star (breRs bk X m Sl.nil [])).dom w0 w (cel b3 31 x.c.toArray::breRs bk X m a.2.1 a.2.2)) (fun a=>x.jobs.l.length - a.1) (0,Sl.nil, []) (by (repeat' (first|exact trivial|(refine ⟨rfl,?_⟩)))) ⟨by omega,fun k hk=>absurd hk (by omega),hI,rfl,hp⟩ ?_
 clear hp hI
 rintro ⟨i,ord,l⟩ e0 w ⟨hi,hall,hI,hl,hp⟩
 dsimp only at hi hall hI hl hp ⊢
 rcases Nat.lt_or_ge i x.jobs.l.length with hlt|hge
 ·obtain ⟨b,o,y,hA,hbb,hrow,hyy⟩:=hs.jobs.has hlt
  have hmem:=List.mem_of_getElem? hyy
  have hya:=hs.pay y hmem
  have hyl:=hlv y hmem
  have hja:jobAt x.ht x.jobs.l i=(rightJ y && decide ((y.height.toNat≤x.ht.toNat∧y.mined.toNat≤x.ht.toNat)∧y.key∉(x.jobs.l.take i).map (·.key))):=by unfold jobAt;rw [hyy]
  have hll:l.length=i:=by
   have:=congrArg List.length hl
   rw [List.length_map,List.length_map,List.length_take] at this
   omega
  have hlk:(l.lookup y.key).isSome=decide (y.key∈(x.jobs.l.take i).map (·.key)):=by rw [lookup_iff,jt_keys hI hl]
  have hno:∀{w:World} {ord':Sl Key} {l':List (Key×EntB)},jobAt x.ht x.jobs.l i=false→Hp (star (breRs bk X m Sl.nil [])).dom w0 w (breRs bk X m ord' l')→∃q ord l,q=jobS x.ht x.jobs.l∧Ending.returned (.bool false)= .returned (.bool q)∧(q=true→JtI ord.l l∧l.map (fun p=>p.2.job.p)=x.jobs.l.map Job.p)∧Mut (star (breRs bk X m Sl.nil [])) (star (breRs bk X m ord l)) w0 w:=fun hn hp=>
   ⟨false,_,_,by rw [show jobS x.ht x.jobs.l=false from allR_no hlt hn],rfl,fun hh=>(by cases hh),hp.shut (.refl _)⟩
  by_cases h1:y.height.toNat≤x.ht.toNat∧y.mined.toNat≤x.ht.toNat
  ·((conv=>whnf);repeat' ((first|((with_reducible apply br_id);first|with_reducible refine br_f ?_|((with_reducible refine br_dec (fun hx=>?_) (fun hx=>?_))<;>(try (exfalso;first|omega|contradiction))))|((with_reducible apply cn_id);refine cn rfl ?_)|((with_reducible apply ld_id);apply ld_hs hp;(focus repeat' constructor);exact rfl)|((with_reducible apply ldn_id);first|(refine ldn_rowx hp hB ‹_› ‹_› _ rfl ‹_› rfl ?_)|(apply lda_hs hp;(focus repeat' constructor);exact rfl))|((with_reducible apply al_id);refine al_cel hp ?_;clear hp;intro bb w hp)|((with_reducible apply st_id);apply sta_hs hp;(focus repeat' constructor);exact rfl;exact rfl;clear hp;intro w hp;(try dsimp only [List.set] at hp))|((with_reducible apply gen_id);(refine gen_ixs rfl rfl ‹_› rfl rfl (by omega) ?_))|((with_reducible apply dr_id);refine dr_auto tabOk (by kernel_rfl) (by decide+kernel) ?_;(try replace hp:=hp.drew))|((with_reducible apply rd_id);(refine rd_max rfl rfl rfl ?_)))<;>(conv=>whnf)))
   have hBk:∀k,(star (jtRs X.bj m ord l)).dom k→B≤k:=fun k hk=>by
    have h2:=hp.own (star (jtRs X.bj m ord l)) (by simp) k hk
    rcases h2 with h2|h2
    ·exact hB k h2
    ·omega
   have hyo:PayOut (star (jtRs X.bj m ord l)).dom B w.drew y.pay:=⟨out_lt (hya.row.keep hp.chg hB) hBk,fun t ht=>out_lt ((hya.tx t ht).keep hp.chg hB) hBk⟩
   refine cl_eq (jadd_any (hp.get (j:=3) rfl) hI (by omega) hyo (Nat.le_trans hBw hp.chg.size) hyl) rfl rfl ?_
   rintro e w ⟨ord',l',rfl,hI',hsame,hnew,hm⟩
   replace hp:=hp.via (j:=3) rfl hm
   clear hm
   dsimp only [List.set] at hp
   refine ⟨_,rfl,?_⟩
   have hE:jaddE l y=0∨jaddE l y=1∨jaddE l y=6:=by
    unfold jaddE
    split
    ·exact .inr (.inl rfl)
    ·split
     ·exact .inr (.inr rfl)
     ·exact .inl rfl
   have hjE:jobAt x.ht x.jobs.l i=decide (jaddE l y=0):=by
    rw [hja]
    unfold jaddE
    rw [hlk]
    cases rightJ y with
    |false=>rfl
    |true=>
     by_cases hk:y.key∈(x.jobs.l.take i).map (·.key)
     ·rw [decide_eq_false (fun hh=>hh.2 hk),decide_eq_true hk]
      rfl
     ·rw [decide_eq_true ⟨h1,hk⟩,decide_eq_false hk]
      rfl
   obtain ⟨E,hEE⟩:∃E,jaddE l y=E:=⟨_,rfl⟩
   rw [hEE] at hE hjE hsame hnew ⊢
   by_cases hE0:E=0
   ·obtain ⟨z,hz1,hz2⟩:=hnew hE0
    subst hE0
    have hb1:jobAt x.ht x.jobs.l i=true:=hjE
    ((conv=>whnf);repeat' ((first|((with_reducible apply br_id);first|with_reducible refine br_f ?_|((with_reducible refine br_ne (fun hx=>?_) (fun hx=>?_))<;>(try (exfalso;first|omega|contradiction))))|((with_reducible apply ar_id);refine ar_i64 (by omega) ?_))<;>(conv=>whnf)))
    refine lp_next (i+1,ord',l') (by show x.jobs.l.length - (i+1) < x.jobs.l.length - i;omega) (by (repeat' (first|exact trivial|(refine ⟨rfl,?_⟩)))) ⟨by show i+1≤_;omega,all_step hall hb1,hI',?_,hp.tail⟩
    show l'.map _=_
    rw [hz1,List.map_append,List.take_add_one,hyy,List.map_append,hl]
    simp [hz2]
   ·have hn:jobAt x.ht x.jobs.l i=false:=by rw [hjE,decide_eq_false hE0]
    ((conv=>whnf);repeat' (((with_reducible apply br_id);first|with_reducible refine br_f ?_|((with_reducible refine br_ne (fun hx=>?_) (fun hx=>?_))<;>(try (exfalso;first|omega|contradiction))))<;>(conv=>whnf)))
    exact ps_val (v':= .bool false) rfl (hno hn hp.tail.tail)
  ·have hn:jobAt x.ht x.jobs.l i=false:=by rw [hja,decide_eq_false (fun hh=>h1 hh.1),Bool.and_false]
   ((conv=>whnf);repeat' ((first|((with_reducible apply br_id);first|with_reducible refine br_t ?_|((with_reducible refine br_dec (fun hx=>?_) (fun hx=>?_))<;>(try (exfalso;first|omega|contradiction))))|((with_reducible apply cn_id);refine cn rfl ?_)|((with_reducible apply ld_id);apply ld_hs hp;(focus repeat' constructor);exact rfl)|((with_reducible apply ldn_id);(refine ldn_rowx hp hB ‹_› ‹_› _ rfl ‹_› rfl ?_))|((with_reducible apply al_id);refine al_cel hp ?_;clear hp;intro bb w hp)|((with_reducible apply st_id);apply sta_hs hp;(focus repeat' constructor);exact rfl;exact rfl;clear hp;intro w hp;(try dsimp only [List.set] at hp))|((with_reducible apply gen_id);(refine gen_ixs rfl rfl ‹_› rfl rfl (by omega) ?_))|((with_reducible apply dr_id);refine dr_auto tabOk (by kernel_rfl) (by decide+kernel) ?_;(try replace hp:=hp.drew))|((with_reducible apply rd_id);(refine rd_max rfl rfl rfl ?_)))<;>(conv=>whnf)))
   exact ps_val (v':= .bool false) rfl (hno hn hp.tail.tail)
 ·have hjS:jobS x.ht x.jobs.l=true:=allR_yes fun k hk=>hall k (by omega)
  rw [List.take_of_length_le hge] at hl
  ((conv=>whnf);repeat' (((with_reducible apply br_id);(with_reducible refine br_dec (fun hx=>?_) (fun hx=>?_))<;>(try (exfalso;first|omega|contradiction)))<;>(conv=>whnf)))
  exact ps_val (v':= .bool true) rfl ⟨true,ord,l,hjS.symm,rfl,fun _=>⟨hI,hl⟩,hp.tail.shut (.refl _)⟩
set_option maxHeartbeats 2000000
structure PutI (X:Snx) (ht:UInt32) (t:List Id) (i:Nat) (lw:List (Id×Sl Plc)) (nw:Int) (lh:List (Hint×Sl Id)) (nh:Int):Prop where
 w:∀x,(idx lw x).l=if x∈t.take i then (idx X.lw x).l++ [⟨ht,((t.idxOf x:Nat):Int)⟩] else (idx X.lw x).l
 h:∀k,(idx lh k).l=(idx X.lh k).l++(t.take i).filter fun y=>decide (hintOf y=k) && !decide (y∈(idx X.lh k).l)
 nw1:X.nw≤nw
 nw2:nw≤X.nw+i
 nh1:X.nh≤nh
 nh2:nh≤X.nh+i
theorem put_w {X:Snx} {ht:UInt32} {t:List Id} {i:Nat} {lw lw':List (Id×Sl Plc)} {x:Id} (hd:t.Nodup) (hx:t[i]? =some x) (hfr:∀x p,p∈(idx X.lw x).l→p.h≠ht) (hw:∀x,(idx lw x).l=if x∈t.take i then (idx X.lw x).l++ [⟨ht,((t.idxOf x:Nat):Int)⟩] else (idx X.lw x).l) (h':∀y,(idx lw' y).l=if y=x∧(⟨ht,(i:Int)⟩:Plc)∉(idx lw x).l then (idx lw x).l++ [⟨ht,(i:Int)⟩] else (idx lw y).l):
  ∀y,(idx lw' y).l=if y∈t.take (i+1) then (idx X.lw y).l++ [⟨ht,((t.idxOf y:Nat):Int)⟩] else (idx X.lw y).l:=fun y=>by
 rw [h' y]
 by_cases hy:y=x
 ·subst hy
  have h1:(idx lw y).l=(idx X.lw y).l:=by rw [hw,if_neg (not_take hd hx)]
  rw [if_pos ⟨rfl,by rw [h1];exact fun hm=>hfr _ _ hm rfl⟩,if_pos ((mem_take1 hx).2 (.inr rfl)),h1,idxOf_nd hd hx]
 ·rw [if_neg (fun h=>hy h.1),hw]
  by_cases hm:y∈t.take i
  ·rw [if_pos hm,if_pos ((mem_take1 hx).2 (.inl hm))]
  ·rw [if_neg hm,if_neg fun h=>((mem_take1 hx).1 h).elim hm hy]
theorem put_h {X:Snx} {t:List Id} {i:Nat} {x:Id} {lh lh':List (Hint×Sl Id)} (hd:t.Nodup) (hx:t[i]? =some x)
  (hh:∀k,(idx lh k).l=(idx X.lh k).l++(t.take i).filter fun y=>decide (hintOf y=k) && !decide (y∈(idx X.lh k).l)) (h':∀k,(idx lh' k).l=if k=hintOf x∧x∉(idx lh (hintOf x)).l then (idx lh (hintOf x)).l++ [x] else (idx lh k).l) (k:Hint):
  (idx lh' k).l=(idx X.lh k).l++(t.take (i+1)).filter fun y=>decide (hintOf y=k) && !decide (y∈(idx X.lh k).l):=by
 have hn:=not_take hd hx
 have hmem:x∈(idx lh (hintOf x)).l↔x∈(idx X.lh (hintOf x)).l:=by
  rw [hh,List.mem_append,List.mem_filter]
  exact ⟨fun h=>h.elim id fun h=>(hn h.1).elim, .inl⟩
 have htk:t.take (i+1)=t.take i++ [x]:=by rw [List.take_add_one,hx];rfl
 rw [h' k,htk,List.filter_append,List.filter_cons,List.filter_nil]
 by_cases hk:k=hintOf x
 ·subst hk
  by_cases hm:x∈(idx X.lh (hintOf x)).l
  ·rw [if_neg (fun h=>h.2 (hmem.2 hm)),if_neg (by simp [hm]),List.append_nil]
   exact hh _
  ·rw [if_pos ⟨rfl,fun h=>hm (hmem.1 h)⟩,if_pos (by simp [hm]),hh,List.append_assoc]
 ·rw [if_neg (fun h=>hk h.1),if_neg (by simp [Ne.symm hk]),List.append_nil]
  exact hh _
theorem spush_any {w0:World} {b:Nat} {X:Snx} (h:(star (snRs b X)).ok w0) {ht low':UInt32} (hc:(X.bs.l= []∧low'=ht)∨(X.bs.l≠ []∧low'=X.low∧(ht.toNat:Int)=X.low.toNat+(X.bs.l.length:Nat))) (hbn:X.bs.l.length≤100000) {B:Blk} (hR:rightB B=true) {C:Nat} (hB:SlOut (star (snRs b X)).dom C w0 Id.c 32 B.tx) (hd:B.tx.l.Nodup) (hn:B.tx.l.length≤32)
  (hlw:∀x,(idx X.lw x).l.length≤90000) (hlh:∀k,(idx X.lh k).l.length≤90000) (hnw: -900000≤X.nw∧X.nw≤900000) (hnh: -900000≤X.nh∧X.nh≤900000) (hfr:∀x p,p∈(idx X.lw x).l→p.h≠ht):
  Calls Tryz.prog 104 #[ptr b,u32 ht,B.v] w0 fun e w'=>e= .returned (i64 0)∧∃lw nw lh nh,∃(s:Sl Id) (s':Sl Blk),s.l=B.tx.l∧s'.l=X.bs.l++ [{B with tx:=s}]∧PutI X ht B.tx.l B.tx.l.length lw nw lh nh∧Mut (star (snRs b X)) (star (rowR 48 32 Id.c s::snRs b {X with low:=low',bs:=s',lw:=lw,nw:=nw,lh:=lh,nh:=nh})) w0 w':=by
 have hp:=Hp.open h
 have us:=Tryz.underlying26
 have us2:=Tryz.underlying49
 have ht1:=ht.toNat_lt
 have ht2:=X.low.toNat_lt
 have hno:=fun {w:World} {r:Res} (hp:Hp (star (snRs b X)).dom w0 w (r::snRs b X))=>snone_any (snAt hp (List.sublist_cons_self _ _))
 have hri:=fun {w:World} (hc:Chg (star (snRs b X)).dom w0 w)=>blkright_any (hB.keep hc)
 rw [hR] at hri
 refine calls_x (args:= [_,_,_]) tabOk Tryz.func104 Tryz.ntmps104 Tryz.results104 rfl (Nat.le_of_ble_eq_true rfl) ?_
 rcases hc with ⟨hb0,hlow⟩|⟨hb0,hlow,hht⟩
 case' inl=>
  have hl0:X.bs.l.length=0:=by rw [hb0];rfl
  ((conv=>whnf);repeat' ((first|((with_reducible apply br_id);first|with_reducible refine br_t ?_|with_reducible refine br_f ?_|with_reducible refine br_not ?_|((with_reducible refine br_eq (fun hx=>?_) (fun hx=>?_))<;>(try (exfalso;first|omega|contradiction))))|((with_reducible apply cn_id);refine cn rfl ?_)|((with_reducible apply ld_id);apply ld_hs hp;(focus repeat' constructor);exact rfl)|((with_reducible apply ldn_id);apply lda_hs hp;(focus repeat' constructor);exact rfl)|((with_reducible apply al_id);refine al_cel hp ?_;clear hp;intro bb w hp)|((with_reducible apply st_id);apply st_hs hp;(focus repeat' constructor);exact rfl;exact rfl;clear hp;intro w hp;(try dsimp only [List.set] at hp))|((with_reducible apply gen_id);apply gen_len;exact rfl;exact rfl;assumption)|((with_reducible apply cl_id);first|((refine cl_eq ((hno hp)) rfl rfl ?_;rintro e w ⟨rfl,hcc⟩;replace hp:=hp.call0 hcc;refine ⟨_,rfl,?_⟩))|((refine cl_eq ((hri hp.chg)) rfl rfl ?_;rintro e w ⟨rfl,hcc⟩;replace hp:=hp.call0 hcc;refine ⟨_,rfl,?_⟩))))<;>(conv=>whnf)))
  obtain ⟨b5,hb5⟩:∃x:Nat,x=bb:=⟨_,rfl⟩
  subst hb5
  replace hp:Hp (star (snRs b X)).dom w0 w (cel b5 51 B.c.toArray::snRs b {X with low:=low'}):=by rw [hlow];exact hp
 case' inr=>
  have hl0:0 < X.bs.l.length:=List.length_pos_iff.2 hb0
  ((conv=>whnf);repeat' ((first|((with_reducible apply br_id);first|with_reducible refine br_t ?_|with_reducible refine br_f ?_|with_reducible refine br_not ?_|((with_reducible refine br_eq (fun hx=>?_) (fun hx=>?_))<;>(try (exfalso;first|omega|contradiction))))|((with_reducible apply ld_id);apply ld_hs hp;(focus repeat' constructor);exact rfl)|((with_reducible apply ldn_id);apply lda_hs hp;(focus repeat' constructor);exact rfl)|((with_reducible apply al_id);refine al_cel hp ?_;clear hp;intro bb w hp)|((with_reducible apply gen_id);apply gen_len;exact rfl;exact rfl;assumption)|((with_reducible apply cl_id);first|((refine cl_eq ((hno hp)) rfl rfl ?_;rintro e w ⟨rfl,hcc⟩;replace hp:=hp.call0 hcc;refine ⟨_,rfl,?_⟩))|((refine cl_eq ((hri hp.chg)) rfl rfl ?_;rintro e w ⟨rfl,hcc⟩;replace hp:=hp.call0 hcc;refine ⟨_,rfl,?_⟩))))<;>(conv=>whnf)))
  refine dr_autos [] 1000 tabOk (by kernel_rfl) (by decide+kernel) ?_
  replace hp:=hp.drew
  ((conv=>whnf);repeat' ((first|((with_reducible apply br_id);(with_reducible refine br_eq (fun hx=>?_) (fun hx=>?_))<;>(try (exfalso;first|omega|contradiction)))|((with_reducible apply ar_id);refine ar_u64 (by omega) ?_)|((with_reducible apply ld_id);apply ld_hs hp;(focus repeat' constructor);exact rfl)|((with_reducible apply rd_id);first|(refine rd_conv tabOk rfl rfl rfl rfl ?_)|(apply rd_len;exact rfl;exact rfl;assumption)))<;>(conv=>whnf)))
  obtain ⟨b5,hb5⟩:∃x:Nat,x=bb:=⟨_,rfl⟩
  subst hb5
  obtain ⟨w,hw9⟩:∃w9,w9=w.drew:=⟨_,rfl⟩
  rw [←hw9] at hp ⊢
  replace hp:Hp (star (snRs b X)).dom w0 w (cel b5 51 B.c.toArray::snRs b {X with low:=low'}):=by rw [hlow];exact hp
 all_goals
  refine dr_autos [] 8 tabOk (by kernel_rfl) (by decide+kernel) ?_
  replace hp:=hp.drew
  have hcp:=fun {w:World} (hc:Chg (star (snRs b X)).dom w0 w)=>copy_any (hB.keep hc) (by omega)
  ((conv=>whnf);repeat' ((first|((with_reducible apply cn_id);first|refine cn rfl ?_|refine cn ‹_› ?_)|((with_reducible apply ld_id);apply ld_hs hp;(focus repeat' constructor);exact rfl)|((with_reducible apply ldn_id);apply lda_hs hp;(focus repeat' constructor);exact rfl)|((with_reducible apply st_id);apply st_hs hp;(focus repeat' constructor);exact rfl;exact rfl;clear hp;intro w hp;(try dsimp only [List.set] at hp))|((with_reducible apply gen_id);first|((refine gen_bs rfl hp el_blkS Blk.c [{B with tx:=s}] [Blk.v {B with tx:=s}] rfl rfl rfl (fun _ hh=>by simp at hh;subst hh;rfl) (by omega) ?_);clear hp;intro br w hp)|((refine gen_appc rfl hp (j:=4) rfl el_blkS rfl ⟨some ⟨br,0,none⟩,1, [{B with tx:=s}]⟩ rfl (hp.row (j:=0) rfl) (fun _ _=>rfl) blk_oneS (by simp) (by simp only [List.length_cons,List.length_nil];omega) (by simp only [List.length_cons,List.length_nil,maxLen];omega) ?_);clear hp;intro A2 c2 w hp;dsimp only [List.set] at hp)|(apply gen_len;exact rfl;exact rfl;assumption))|((with_reducible apply cl_id);(refine cl_eq (hcp hp.chg) rfl rfl ?_;rintro e w ⟨s,hs,rfl,hmd⟩;replace hp:=hp.add hmd;replace hmd:=hmd.chg;refine ⟨_,rfl,?_⟩)))<;>(conv=>whnf)))
  obtain ⟨s',hs'⟩:∃s':Sl Blk,s'=⟨A2,c2,X.bs.l++ [{B with tx:=s}]⟩:=⟨_,rfl⟩
  have hl':s'.l=X.bs.l++ [{B with tx:=s}]:=by rw [hs']
  have hv:Value.slice A2 (X.bs.l++ [{B with tx:=s}]).length c2=s'.v:=by rw [hs']
  rw [←hs',hv] at hp
  replace hp:=hp.pick (rs':=rowR 48 32 Id.c s::snRs b {X with low:=low',bs:=s'}) [1,3,4,5,6] (by decide) rfl
  refine lp_inv (α:=Nat×List (Id×Sl Plc)×Int×List (Hint×Sl Id)×Int) (fun a=> [(0,ptr b),(1,u32 ht),(55,B.tx.v),(56,i64 B.tx.l.length),(57,i64 a.1)]) (fun a w=>a.1≤B.tx.l.length∧PutI X ht B.tx.l a.1 a.2.1 a.2.2.1 a.2.2.2.1 a.2.2.2.2∧Hp (star (snRs b X)).dom w0 w (rowR 48 32 Id.c s::snRs b {X with low:=low',bs:=s',lw:=a.2.1,nw:=a.2.2.1,lh:=a.2.2.2.1,nh:=a.2.2.2.2})) (fun a=>B.tx.l.length - a.1) (0,X.lw,X.nw,X.lh,X.nh) (by (repeat' (first|exact trivial|(refine ⟨rfl,?_⟩)))) ⟨by show 0≤_;omega,⟨fun x=>by simp,fun k=>by simp,by simp,by simp,by simp,by simp⟩,hp⟩ ?_
  clear hp hv hs'
  rintro ⟨i,lw,nw,lh,nh⟩ e0 w ⟨hi,hI,hp⟩
  dsimp only at hi hI hp ⊢
  rcases Nat.lt_or_ge i B.tx.l.length with hlt|hge
  ·obtain ⟨b1,o1,x,hA,hb1,hrow,hxx⟩:=(hB.keep hp.chg).has (i:=i) (by omega)
   have hxl:(Id.c x).length=32:=rfl
   have hI1:=hI.nw1
   have hI2:=hI.nw2
   have hI3:=hI.nh1
   have hI4:=hI.nh2
   have hnt:=fun {w:World} (hk:(star (iRsIP X.bw X.mw lw nw)).ok w)=>inotIP hk x ⟨ht,(i:Int)⟩ (by rw [hI.w,if_neg (not_take hd hxx)];exact Nat.le_trans (hlw x) (by omega)) (by omega)
   have hnh9:=fun {w:World} (hk':(star (iRsHI X.bh X.mh lh nh)).ok w)=>inotHI hk' (hintOf x) x (by rw [hI.h,List.length_append];have h1:=hlh (hintOf x);have h2:=List.length_filter_le (fun y=>decide (hintOf y=hintOf x) && !decide (y∈(idx X.lh (hintOf x)).l)) (B.tx.l.take i);rw [List.length_take] at h2;omega) (by omega)
   have hho:=fun w=>hintof_any w x
   obtain ⟨H,hH⟩:∃H,hintOf x=H:=⟨_,rfl⟩
   rw [hH] at hnh9 hho
   ((conv=>whnf);repeat' ((first|((with_reducible apply br_id);(with_reducible refine br_dec (fun hx=>?_) (fun hx=>?_))<;>(try (exfalso;first|omega|contradiction)))|((with_reducible apply cn_id);refine cn rfl ?_)|((with_reducible apply ldn_id);(refine ldn_rowat hrow i 0 rfl hxx rfl hxl ?_))|((with_reducible apply al_id);refine al_cel hp ?_;clear hp;intro bb w hp)|((with_reducible apply st_id);apply sta_hs hp;(focus repeat' constructor);exact rfl;exact rfl;clear hp;intro w hp;(try dsimp only [List.set] at hp))|((with_reducible apply gen_id);(refine gen_ixs rfl rfl hA rfl rfl (by omega) ?_)))<;>(conv=>whnf)))
   refine dr_autos [] 8 tabOk (by kernel_rfl) (by decide+kernel) ?_
   replace hp:=hp.drew
   ((conv=>whnf);repeat' ((first|((with_reducible apply ld_id);apply ld_hs hp;(focus repeat' constructor);exact rfl)|((with_reducible apply ldn_id);apply lda_hs hp;(focus repeat' constructor);exact rfl)|((with_reducible apply gen_id);apply gen_build;exact rfl;exact rfl)|((with_reducible apply cl_id);(refine cl_eq (hnt (hp.get (j:=4) rfl)) rfl rfl ?_;rintro e w ⟨q,rfl,lw2,nw2,hn1,hn2,hw2,hmt⟩;replace hp:=hp.via (j:=4) rfl hmt;dsimp only [List.set] at hp;replace hmt:=hmt.chg;refine ⟨_,rfl,?_⟩)))<;>(conv=>whnf)))
   refine dr_autos [] 7 tabOk (by kernel_rfl) (by decide+kernel) ?_
   replace hp:=hp.drew
   ((conv=>whnf);repeat' ((first|((with_reducible apply ar_id);refine ar_i64 (by omega) ?_)|((with_reducible apply cn_id);refine cn ‹_› ?_)|((with_reducible apply ld_id);apply ld_hs hp;(focus repeat' constructor);exact rfl)|((with_reducible apply ldn_id);apply lda_hs hp;(focus repeat' constructor);exact rfl)|((with_reducible apply cl_id);first|((refine cl_eq ((hho _)) rfl rfl ?_;rintro e w ⟨rfl,hcc⟩;replace hp:=hp.call0 hcc;refine ⟨_,rfl,?_⟩))|((refine cl_eq (hnh9 (hp.get (j:=5) rfl)) rfl rfl ?_;rintro e w ⟨q2,rfl,lh2,nh2,hn3,hn4,hh2,hmt⟩;replace hp:=hp.via (j:=5) rfl hmt;dsimp only [List.set] at hp;replace hmt:=hmt.chg;refine ⟨_,rfl,?_⟩))))<;>(conv=>whnf)))
   all_goals
    rw [←hH] at hh2
    exact lp_next (i+1,lw2,nw2,lh2,nh2) (by show B.tx.l.length - (i+1) < B.tx.l.length - i;omega) (by (repeat' (first|exact trivial|(refine ⟨rfl,?_⟩)))) ⟨by show i+1≤_;omega,⟨put_w hd hxx hfr hI.w hw2,put_h hd hxx hI.h hh2,by show X.nw≤nw2;omega,by show nw2≤X.nw+((i+1:Nat):Int);omega,by show X.nh≤nh2;omega,by show nh2≤X.nh+((i+1:Nat):Int);omega⟩,hp.tail⟩
  ·obtain rfl:i=B.tx.l.length:=by omega
   ((conv=>whnf);repeat' (((with_reducible apply br_id);(with_reducible refine br_dec (fun hx=>?_) (fun hx=>?_))<;>(try (exfalso;first|omega|contradiction)))<;>(conv=>whnf)))
   exact ps_val (v':=i64 0) rfl ⟨rfl,lw,nw,lh,nh,s,s',hs,hl',hI,hp.shut (.refl _)⟩
def plcT (h:Nat) (t:List Id) (x:Id):List Plc:=if x∈t then [⟨UInt32.ofNat h,((t.idxOf x:Nat):Int)⟩] else []
def plcs:Nat→List (List Id)→Id→List Plc
 |_, [],_=> []
 |h,t::L,x=>plcT h t x++plcs (h+1) L x
theorem plcs_snoc (h:Nat) (L:List (List Id)) (t:List Id) (x:Id):plcs h (L++ [t]) x=plcs h L x++plcT (h+L.length) t x:=by
 induction L generalizing h with
 |nil=>simp [plcs]
 |cons u L ih=>
  show plcT h u x++plcs (h+1) (L++ [t]) x=(plcT h u x++plcs (h+1) L x)++_
  rw [ih,List.append_assoc,List.length_cons]
  congr 3
  omega
theorem plcT_h {h:Nat} {t:List Id} {x:Id} {p:Plc} (hp:p∈plcT h t x):p.h=UInt32.ofNat h:=by
 unfold plcT at hp
 split at hp
 ·simp at hp;rw [hp]
 ·simp at hp
theorem plcs_h {h:Nat} {L:List (List Id)} {x:Id} {p:Plc} (hp:p∈plcs h L x):∃i,i < L.length∧p.h=UInt32.ofNat (h+i):=by
 induction L generalizing h with
 |nil=>simp [plcs] at hp
 |cons t L ih=>
  rcases List.mem_append.1 hp with hp|hp
  ·exact ⟨0,by simp,plcT_h hp⟩
  ·obtain ⟨i,h1,h2⟩:=ih hp
   exact ⟨i+1,by simp;omega,by rw [h2];congr 1;omega⟩
theorem plcs_len {h:Nat} {L:List (List Id)} {x:Id}:(plcs h L x).length≤L.length:=by
 induction L generalizing h with
 |nil=>simp [plcs]
 |cons t L ih=>
  have h1:(plcT h t x).length≤1:=by unfold plcT;split<;>simp
  have h2:=ih (h:=h+1)
  show (plcT h t x++plcs (h+1) L x).length≤_
  rw [List.length_append,List.length_cons]
  omega
structure SnI (X:Snx) (L:List (List Id)) (K:Nat):Prop where
 bs:X.bs.l.map (fun B=>B.tx.l)=L
 top:X.low.toNat+L.length≤4294967296
 nd:∀t∈L,t.Nodup∧t.length≤32
 w:∀x,(idx X.lw x).l=plcs X.low.toNat L x
 hn:∀k,(idx X.lh k).l.Nodup
 h:∀k y,y∈(idx X.lh k).l↔hintOf y=k∧∃t∈L,y∈t
 nw: -(K:Int)≤X.nw∧X.nw≤K
 nh: -(K:Int)≤X.nh∧X.nh≤K
theorem SnI.push {X:Snx} {L:List (List Id)} {K:Nat} (h:SnI X L K) {ht low':UInt32} {t:List Id} (hc:(L= []∧low'=ht)∨(L≠ []∧low'=X.low∧(ht.toNat:Int)=X.low.toNat+(L.length:Nat))) (hd:t.Nodup) (hn:t.length≤32) {lw nw lh nh} (hI:PutI X ht t t.length lw nw lh nh) {s':Sl Blk} {B:Blk} (hs':s'.l=X.bs.l++ [B]) (hB:B.tx.l=t):
  SnI {X with low:=low',bs:=s',lw:=lw,nw:=nw,lh:=lh,nh:=nh} (L++ [t]) (K+32):=by
 have hlt:=ht.toNat_lt
 have htop:=h.top
 refine ⟨?_,?_,?_,fun x=>?_,fun k=>?_,fun k y=>?_,?_,?_⟩
 ·show s'.l.map _=_
  rw [hs',List.map_append,h.bs]
  simp [hB]
 ·show low'.toNat+_≤_
  rw [List.length_append]
  rcases hc with ⟨rfl,rfl⟩|⟨_,rfl,h2⟩
  ·simp;omega
  ·simp;omega
 ·intro u hu
  rcases List.mem_append.1 hu with hu|hu
  ·exact h.nd u hu
  ·simp at hu;subst hu;exact ⟨hd,hn⟩
 ·show (idx lw x).l=plcs low'.toNat (L++ [t]) x
  rw [hI.w,List.take_length,plcs_snoc]
  rcases hc with ⟨rfl,rfl⟩|⟨_,rfl,h2⟩
  ·have h0:(idx X.lw x).l= []:=h.w x
   rw [h0]
   unfold plcT
   simp [plcs]
  ·rw [h.w]
   have e:UInt32.ofNat (X.low.toNat+L.length)=ht:=by
    rw [show X.low.toNat+L.length=ht.toNat by omega];simp
   unfold plcT
   rw [e]
   split<;>simp
 ·show (idx lh k).l.Nodup
  rw [hI.h,List.take_length]
  refine List.nodup_append.2 ⟨h.hn k,hd.filter _,fun a ha b hb e=>?_⟩
  subst e
  have:=(List.mem_filter.1 hb).2
  simp at this
  exact this.2 ha
 ·show y∈(idx lh k).l↔_
  rw [hI.h,List.take_length,List.mem_append,List.mem_filter]
  have hky:=h.h k y
  simp only [Bool.and_eq_true,decide_eq_true_eq,Bool.not_eq_true',decide_eq_false_iff_not,List.mem_append,List.mem_singleton]
  constructor
  ·rintro (h0|⟨h1,h2,_⟩)
   ·obtain ⟨h1,u,h2,h3⟩:=hky.1 h0
    exact ⟨h1,u, .inl h2,h3⟩
   ·exact ⟨h2,t, .inr rfl,h1⟩
  ·rintro ⟨h1,u,h2|rfl,h3⟩
   ·exact .inl (hky.2 ⟨h1,u,h2,h3⟩)
   ·by_cases hm:y∈(idx X.lh k).l
    ·exact .inl hm
    ·exact .inr ⟨h3,h1,hm⟩
 ·have h1:=hI.nw1;have h2:=hI.nw2;have h3:=h.nw
  show _≤nw∧nw≤_
  omega
 ·have h1:=hI.nh1;have h2:=hI.nh2;have h3:=h.nh
  show _≤nh∧nh≤_
  omega
theorem spush_bad {w0:World} {b:Nat} {X:Snx} (h:SnAt w0 b X) (ht:UInt32) {B:Blk} {C:Nat} (hB:SlAt C w0 Id.c 32 B.tx) (hR:rightB B=false):Calls Tryz.prog 104 #[ptr b,u32 ht,B.v] w0 fun e w'=>e= .returned (i64 4)∧Chg N0 w0 w':=by
 have hp:=Hp.start (S:=N0) w0
 have hb:∀b,N0 b→C≤b:=fun _ hh=>hh.elim
 have hri:=fun {w:World} (hc:Chg N0 w0 w)=>blkright_any (hB.keep hc hb)
 rw [hR] at hri
 refine calls_x (args:= [_,_,_]) tabOk Tryz.func104 Tryz.ntmps104 Tryz.results104 rfl (Nat.le_of_ble_eq_true rfl) ?_
 ((conv=>whnf);repeat' ((first|((with_reducible apply br_id);first|with_reducible refine br_f ?_|with_reducible refine br_not ?_)|((with_reducible apply ldn_id);apply lda_hs hp;(focus repeat' constructor);exact rfl)|((with_reducible apply al_id);refine al_cel hp ?_;clear hp;intro bb w hp)|((with_reducible apply cl_id);first|((refine cl_eq ((snone_any (h.keep0 hp.chg))) rfl rfl ?_;rintro e w ⟨rfl,hcc⟩;replace hp:=hp.call0 hcc;refine ⟨_,rfl,?_⟩))|((refine cl_eq ((hri hp.chg)) rfl rfl ?_;rintro e w ⟨rfl,hcc⟩;replace hp:=hp.call0 hcc;refine ⟨_,rfl,?_⟩))))<;>(conv=>whnf)))
 exact ps_val (v':=i64 4) rfl ⟨rfl,hp.chg⟩
theorem spush_far {w0:World} {b:Nat} {X:Snx} (h:SnAt w0 b X) {ht:UInt32} {B:Blk} {C:Nat} (hB:SlAt C w0 Id.c 32 B.tx) (hR:rightB B=true) (hb0:X.bs.l≠ []) (hbn:X.bs.l.length≤100000) (hht:(ht.toNat:Int)≠X.low.toNat+(X.bs.l.length:Nat)):Calls Tryz.prog 104 #[ptr b,u32 ht,B.v] w0 fun e w'=>e= .returned (i64 1)∧Chg N0 w0 w':=by
 have hp:=Hp.start (S:=N0) w0
 have us:=Tryz.underlying26
 have hb:∀b,N0 b→C≤b:=fun _ hh=>hh.elim
 have hri:=fun {w:World} (hc:Chg N0 w0 w)=>blkright_any (hB.keep hc hb)
 rw [hR] at hri
 have ht1:=ht.toNat_lt
 have ht2:=X.low.toNat_lt
 have hl0:0 < X.bs.l.length:=List.length_pos_iff.2 hb0
 refine calls_x (args:= [_,_,_]) tabOk Tryz.func104 Tryz.ntmps104 Tryz.results104 rfl (Nat.le_of_ble_eq_true rfl) ?_
 ((conv=>whnf);repeat' ((first|((with_reducible apply br_id);first|with_reducible refine br_t ?_|with_reducible refine br_f ?_|with_reducible refine br_not ?_|((with_reducible refine br_eq (fun hx=>?_) (fun hx=>?_))<;>(try (exfalso;first|omega|contradiction))))|((with_reducible apply ld_id);(refine ld_of ((h.keep0 hp.chg).cell rfl) ?_))|((with_reducible apply ldn_id);apply lda_hs hp;(focus repeat' constructor);exact rfl)|((with_reducible apply al_id);refine al_cel hp ?_;clear hp;intro bb w hp)|((with_reducible apply gen_id);apply gen_len;exact rfl;exact rfl;assumption)|((with_reducible apply cl_id);first|((refine cl_eq ((snone_any (h.keep0 hp.chg))) rfl rfl ?_;rintro e w ⟨rfl,hcc⟩;replace hp:=hp.call0 hcc;refine ⟨_,rfl,?_⟩))|((refine cl_eq ((hri hp.chg)) rfl rfl ?_;rintro e w ⟨rfl,hcc⟩;replace hp:=hp.call0 hcc;refine ⟨_,rfl,?_⟩))))<;>(conv=>whnf)))
 refine dr_autos [] 1000 tabOk (by kernel_rfl) (by decide+kernel) ?_
 replace hp:=hp.drew
 ((conv=>whnf);repeat' ((first|((with_reducible apply br_id);(with_reducible refine br_eq (fun hx=>?_) (fun hx=>?_))<;>(try (exfalso;first|omega|contradiction)))|((with_reducible apply ar_id);refine ar_u64 (by omega) ?_)|((with_reducible apply ld_id);(refine ld_of ((h.keep0 hp.chg).cell rfl) ?_))|((with_reducible apply rd_id);first|(refine rd_conv tabOk rfl rfl rfl rfl ?_)|(apply rd_len;exact rfl;exact rfl;assumption)))<;>(conv=>whnf)))
 exact ps_val (v':=i64 1) rfl ⟨rfl,hp.chg⟩
theorem Hp.outRow {S:Nat→Prop} {w0 w:World} {r:Res} {L rs:List Res} (h:Hp S w0 w (star (r::L)::rs)):Hp S w0 w (star L::r::rs):=by
 have u:=h.unfold
 obtain ⟨p1,p2⟩:=List.pairwise_cons.1 u.sep
 obtain ⟨q1,q2,q3⟩:=List.pairwise_append.1 p2
 refine ⟨h.chg,fun x hx=>?_,List.pairwise_cons.2 ⟨fun x hx b hb=>?_,List.pairwise_cons.2 ⟨fun x hx=>p1 x (List.mem_append_right _ hx),q2⟩⟩,fun x hx b hb=>?_⟩
 ·rcases List.mem_cons.1 hx with rfl|hx
  ·exact star_ok.2 ⟨fun y hy=>u.ok y (List.mem_cons_of_mem _ (List.mem_append_left _ hy)),q1⟩
  rcases List.mem_cons.1 hx with rfl|hx
  ·exact u.ok _ (List.mem_cons_self ..)
  ·exact u.ok x (List.mem_cons_of_mem _ (List.mem_append_right _ hx))
 ·obtain ⟨y,hy,hyb⟩:=star_dom.1 hb
  rcases List.mem_cons.1 hx with rfl|hx
  ·exact fun hxb=>p1 y (List.mem_append_left _ hy) b hxb hyb
  ·exact q3 y hy x hx b hyb
 ·rcases List.mem_cons.1 hx with rfl|hx
  ·obtain ⟨y,hy,hyb⟩:=star_dom.1 hb
   exact u.own y (List.mem_cons_of_mem _ (List.mem_append_left _ hy)) b hyb
  rcases List.mem_cons.1 hx with rfl|hx
  ·exact u.own _ (List.mem_cons_self ..) b hb
  ·exact u.own x (List.mem_cons_of_mem _ (List.mem_append_right _ hx)) b hb
theorem snew_any (w0:World):Calls Tryz.prog 100 #[] w0 fun e w'=>∃b X,X.bs.l= []∧X.lw= []∧X.nw=0∧X.lh= []∧X.nh=0∧e= .returned (ptr b)∧Made (star (snRs b X)) w0 w':=by
 have hp:=Hp.start (S:=N0) w0
 refine calls_x (args:= []) tabOk Tryz.func100 Tryz.ntmps100 Tryz.results100 rfl (Nat.le_of_ble_eq_true rfl) ?_
 ((conv=>whnf);repeat' ((first|((with_reducible apply al_id);refine al_cel hp ?_;clear hp;intro bb w hp)|((with_reducible apply gen_id);apply gen_build;exact rfl;exact rfl)|((with_reducible apply cl_id);first|((refine cl_eq inewIP rfl rfl ?_;rintro e w ⟨bw,mw,rfl,hm⟩;replace hp:=hp.add hm;clear hm;refine ⟨_,rfl,?_⟩))|((refine cl_eq inewHI rfl rfl ?_;rintro e w ⟨bh,mh,rfl,hm⟩;replace hp:=hp.add hm;clear hm;refine ⟨_,rfl,?_⟩))))<;>(conv=>whnf)))
 replace hp:=(hp.nilRow 51 65 Blk.c).toCut (j:=0) rfl
 replace hp:=hp.pick (rs':=snRs bb ⟨0,Sl.nil,bw,mw, [],0,bh,mh, [],0⟩) [1,0,3,2] (by decide) rfl
 exact ps_of ⟨_,_,rfl,rfl,rfl,rfl,rfl,rfl,hp.made (.refl _)⟩
section
variable {α : Type} {S : Nat → Prop} {w0 w w' : World} {rs rs' rs'' : List Res} {r r' : Res} {enc : α → List Value} {e : TypeId} {sz j : Nat} {s : Sl α}
end
theorem Mut.outRow {w w':World} {r:Res} {L L':List Res} (m:Mut (star L) (star (r::L')) w w'):Mut (star L) (star [star L',r]) w w':=by
 have h:Hp (star L).dom w w' [star (r::L')]:=⟨m.chg,fun x hx=>by rw [List.mem_singleton] at hx;subst hx;exact m.ok,List.pairwise_singleton ..,fun x hx b hb=>by rw [List.mem_singleton] at hx;subst hx;exact m.dom b hb⟩
 exact h.outRow.shut (.refl _)
theorem Mut.out0 {w w':World} {r r':Res} (m:Mut r r' w w'):Mut r (star [r']) w w':=by
 have h:Hp r.dom w w' [r']:=⟨m.chg,fun x hx=>by rw [List.mem_singleton] at hx;subst hx;exact m.ok,List.pairwise_singleton ..,fun x hx b hb=>by rw [List.mem_singleton] at hx;subst hx;exact m.dom b hb⟩
 exact ⟨m.chg,star_ok.2 ⟨h.ok,h.sep⟩,fun b hb=>by
  obtain ⟨x,hx,hxb⟩:=star_dom.1 hb
  exact h.own x hx b hxb⟩
def tidR (s:Sl Id):Res:=rowR 48 32 Id.c s
theorem SnI.lw_len {X:Snx} {L:List (List Id)} {K:Nat} (h:SnI X L K) (x:Id):(idx X.lw x).l.length≤L.length:=by rw [h.w];exact plcs_len
theorem flat_le32 {L:List (List Id)} (h:∀t∈L,t.length≤32):L.flatten.length≤32*L.length:=by
 induction L with
 |nil=>simp
 |cons t L ih=>
  have h1:=h t (by simp)
  have h2:=ih fun u hu=>h u (by simp [hu])
  simp only [List.flatten_cons,List.length_append,List.length_cons]
  omega
theorem SnI.lh_len {X:Snx} {L:List (List Id)} {K:Nat} (h:SnI X L K) (k:Hint):(idx X.lh k).l.length≤32*L.length:=by
 refine Nat.le_trans (List.Nodup.length_le_of_subset (h.hn k) (l₂:=L.flatten) fun y hy=>?_) (flat_le32 fun t ht=>(h.nd t ht).2)
 obtain ⟨_,t,ht,hyt⟩:=(h.h k y).1 hy
 exact List.mem_flatten.2 ⟨t,ht,hyt⟩
theorem SnI.more {X:Snx} {L:List (List Id)} {K K':Nat} (h:SnI X L K) (hK:K≤K'):SnI X L K':=
 ⟨h.bs,h.top,h.nd,h.w,h.hn,h.h,by have:=h.nw;omega,by have:=h.nh;omega⟩
theorem SnI.len {X:Snx} {L:List (List Id)} {K:Nat} (h:SnI X L K):X.bs.l.length=L.length:=by rw [←h.bs,List.length_map]
theorem right_iff {b:Blk} (h:rightB b=true):b.tx.l.length≤32∧b.tx.l.Nodup:=by
 simp only [rightB,Bool.and_eq_true,decide_eq_true_eq] at h
 exact ⟨h.1.1,h.2⟩
def pushE (low:UInt32) (n:Nat) (ht:UInt32) (R:Bool):Int:=if R=false then 4 else if n=0 then 0 else if (ht.toNat:Int)=low.toNat+(n:Nat) then 0 else 1
def pushL {α:Type} (low:UInt32) (L:List α) (ht:UInt32) (t:α) (R:Bool):List α:=if pushE low L.length ht R=0 then L++ [t] else L
def pushW (low:UInt32) (n:Nat) (ht:UInt32) (R:Bool):UInt32:=if R=true∧n=0 then ht else low
section
variable {w0 : World} {b : Nat} {X : Snx} {L : List (List Id)} {K : Nat}
theorem spushI_any (h:(star (snRs b X)).ok w0) (hI:SnI X L K) (hK:K≤800000) (hL:L.length≤1000) {ht:UInt32} {B:Blk} {C:Nat} (hB:SlOut (star (snRs b X)).dom C w0 Id.c 32 B.tx):
  Calls Tryz.prog 104 #[ptr b,u32 ht,B.v] w0 fun e w'=>e= .returned (i64 (pushE X.low L.length ht (rightB B)))∧∃X',∃T':List (Sl Id),SnI X' (pushL X.low L ht B.tx.l (rightB B)) (K+32)∧X'.low=pushW X.low L.length ht (rightB B)∧(∀c∈X'.bs.l,c∈X.bs.l∨c.tx∈T')∧Mut (star (snRs b X)) (star (star (snRs b X')::T'.map tidR)) w0 w':=by
 have hat:=snAt (Hp.open h) (.refl _)
 have hlen:=hI.len
 cases hR:rightB B with
 |false=>
  refine Calls.mono (spush_bad hat ht hB.at_ hR) ?_
  rintro e w ⟨rfl,hc⟩
  exact ⟨rfl,X, [],hI.more (by omega),by simp [pushW],fun c hc=>.inl hc,(Mut.of0 h hc).out0⟩
 |true=>
  obtain ⟨hr1,hr2⟩:=right_iff hR
  by_cases hcs:(L= []∧pushW X.low L.length ht true=ht)∨(L≠ []∧pushW X.low L.length ht true=X.low∧(ht.toNat:Int)=X.low.toNat+(L.length:Nat))
  ·have hE:pushE X.low L.length ht true=0:=by
    unfold pushE
    rcases hcs with ⟨h1,_⟩|⟨_,_,h2⟩
    ·subst h1;rfl
    ·rw [if_neg (by simp),if_pos h2]
     simp
   rw [hE,show pushL X.low L ht B.tx.l true=L++ [B.tx.l] from if_pos hE]
   have hbs:X.bs.l= []↔L= []:=by rw [←List.length_eq_zero_iff,hlen,List.length_eq_zero_iff]
   have hn1:=hI.nw
   have hn2:=hI.nh
   refine Calls.mono (spush_any h (ht:=ht) (low':=pushW X.low L.length ht true) ?_ (by omega) hR hB hr2 hr1 (fun x=>by have:=hI.lw_len x;omega) (fun k=>by have:=hI.lh_len k;omega) (by omega) (by omega) fun x p hp=>?_) ?_
   ·rcases hcs with ⟨h1,h2⟩|⟨h1,h2,h3⟩
    ·exact .inl ⟨hbs.2 h1,h2⟩
    ·exact .inr ⟨fun h0=>h1 (hbs.1 h0),h2,by rw [hlen];exact h3⟩
   ·rw [hI.w] at hp
    obtain ⟨i,h1,h2⟩:=plcs_h hp
    rcases hcs with ⟨h3,_⟩|⟨_,_,h3⟩
    ·subst h3;simp at h1
    ·have h4:=ht.toNat_lt
     rw [h2]
     intro h5
     have h6:=congrArg UInt32.toNat h5
     rw [UInt32.toNat_ofNat_of_lt' (by show _ < 4294967296;omega)] at h6
     omega
   ·rintro e w ⟨rfl,lw,nw,lh,nh,s,s',hs,hs',hPI,hmt⟩
    refine ⟨rfl,_, [s],hI.push (B:={B with tx:=s}) hcs hr2 hr1 hPI hs' hs,rfl,fun c hc=>?_,hmt.outRow⟩
    have hc:c∈s'.l:=hc
    rw [hs'] at hc
    rcases List.mem_append.1 hc with hc|hc
    ·exact .inl hc
    ·rw [List.mem_singleton] at hc
     subst hc
     exact .inr (by simp)
  ·have hne:L≠ []:=fun h0=>hcs (.inl ⟨h0,by subst h0;simp [pushW]⟩)
   have hl0:L.length≠0:=fun h0=>hne (List.eq_nil_of_length_eq_zero h0)
   have hW:pushW X.low L.length ht true=X.low:=if_neg fun hh=>hl0 hh.2
   have hht:¬(ht.toNat:Int)=X.low.toNat+(L.length:Nat):=fun h0=>hcs (.inr ⟨hne,hW,h0⟩)
   have hE:pushE X.low L.length ht true=1:=by
    unfold pushE
    rw [if_neg (by simp),if_neg hl0,if_neg hht]
   rw [hE,show pushL X.low L ht B.tx.l true=L from if_neg (by rw [hE];omega),hW]
   refine Calls.mono (spush_far hat hB.at_ hR (fun h0=>hl0 (by rw [←hlen,h0];rfl)) (by omega) (by rw [hlen];exact hht)) ?_
   rintro e w ⟨rfl,hc⟩
   exact ⟨rfl,X, [],hI.more (by omega),rfl,fun c hc=>.inl hc,(Mut.of0 h hc).out0⟩
end
end Go.Proofs.YtpbapnlnheahnaaGreatDoor
