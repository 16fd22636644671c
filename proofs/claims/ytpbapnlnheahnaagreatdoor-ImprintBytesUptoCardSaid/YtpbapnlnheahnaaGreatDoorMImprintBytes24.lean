/- MImprintBytes24: parts of the proof of ImprintBytes: ChLoad, ChLoad2, SesP. No condition of their own. -/
import Derived.Test.YtpbapnlnheahnaaGreatDoorMImprintBytes23
import Derived.Test.YtpbapnlnheahnaaGreatDoorMImprintBytes16
import Derived.Test.YtpbapnlnheahnaaGreatDoorMImprintBytes15
import Derived.Test.YtpbapnlnheahnaaGreatDoorMImprintBytes7
import Derived.Test.YtpbapnlnheahnaaGreatDoorMImprintBytes6
set_option linter.unusedSimpArgs false
set_option linter.unusedVariables false
namespace Go.Proofs.YtpbapnlnheahnaaGreatDoor
open Go.RowKit
set_option maxRecDepth 100000
set_option maxHeartbeats 4000000
def winAt (l:List Blk) (i:Nat):Bool:=match l[i]? with
 |some x=>rightB x && ((match i with
  |0=>true
  |k+1=>match l[k]? with
   |some y=>decide (x.parent=y.hash)
   |none=>true) && decide (x.hash∉(l.take i).map (·.hash)))
 |none=>true
def chS (d:Int) (ht:UInt32) (l:List Blk):Bool:=decide (1≤d∧d≤16∧(l.length:Int)≤d+1∧l.length≤ht.toNat) && (List.range l.length).all (winAt l)
theorem winAt_congr {l m:List Blk} (h:l.map Blk.p=m.map Blk.p) (i:Nat):winAt l i=winAt m i:=by
 have hg:∀j:Nat,(l[j]?).map Blk.p=(m[j]?).map Blk.p:=fun j=>by rw [←List.getElem?_map,←List.getElem?_map,h]
 have hh:(l.take i).map (·.hash)=(m.take i).map (·.hash):=by
  have e:∀l:List Blk,(l.take i).map (·.hash)=((l.map Blk.p).take i).map (·.hash):=fun l=>by rw [←List.map_take,List.map_map];rfl
  rw [e,e,h]
 have e:∀l:List Blk,winAt l i=(match (l[i]?).map Blk.p with
   |some x=>((decide (x.txs.length≤32) && !decide (x.hash=x.parent)) && decide x.txs.Nodup) && ((match i with
    |0=>true
    |k+1=>match (l[k]?).map Blk.p with
     |some y=>decide (x.parent=y.hash)
     |none=>true) && decide (x.hash∉(l.take i).map (·.hash)))
   |none=>true):=fun l=>by
  unfold winAt
  cases l[i]? with
  |none=>rfl
  |some t=>
   cases i with
   |zero=>rfl
   |succ k=>
    dsimp only [Option.map_some]
    cases l[k]? <;>rfl
 rw [e,e,hg,hh]
 cases i with
 |zero=>rfl
 |succ k=>dsimp only;rw [hg]
structure ChW (w:World) (b:Nat) (C:Chn):Prop where
 cel:w.heap[b]? =some (.cells C.c.toArray 196)
 win:RAt w.heap.size w C.win
 dep:1≤C.depth∧C.depth≤16
 len:C.win.l.length≤17
 tx:∀c∈C.win.l,c.tx.l.length≤32
section
variable {w0 : World} {b : Nat} {C : Chn}
theorem ChW.keep0 {w:World} (h:ChW w0 b C) (hc:Chg N0 w0 w):ChW w b C:=
 ⟨hc.heap h.cel fun hh=>hh,⟨(h.win.row.keep hc fun _ hh=>hh.elim).more hc.size,fun c hm=>((h.win.tx c hm).keep hc fun _ hh=>hh.elim).more hc.size⟩,h.dep,h.len,h.tx⟩
theorem ChW.cell (h:ChW w0 b C) {i:Nat} {v:Value} (hi:C.c[i]? =some v):w0.cell? ⟨b,i,none⟩=some v:=cell_of_heap h.cel (by simpa using hi)
theorem cnoneW_any (h:ChW w0 b C):Calls Tryz.prog 138 #[ptr b] w0 fun e w'=>e= .returned (.bool false)∧Chg N0 w0 w':=by
 have hp:=Hp.start (S:=N0) w0
 have hd:=h.dep
 refine calls_x (args:= [_]) tabOk Tryz.func138 Tryz.ntmps138 Tryz.results138 rfl (Nat.le_of_ble_eq_true rfl) ?_
 have hd2:(C.depth==0)=false:=by simp;omega
 ((conv=>whnf);repeat' ((first|((with_reducible apply br_id);with_reducible refine br_f ?_)|((with_reducible apply ld_id);(refine ld_of ((h.keep0 hp.chg).cell rfl) ?_)))<;>(conv=>whnf)))
 all_goals exact ps_val (v':= .bool (C.depth==0)) rfl ⟨by rw [hd2],hp.chg⟩
theorem catW_any (h:ChW w0 b C) {i:Nat} (hi:i < C.win.l.length):Calls Tryz.prog 139 #[ptr b,i64 i] w0 fun e w'=>∃m,e= .returned (.int .u32 m)∧Chg N0 w0 w':=by
 have hp:=Hp.start (S:=N0) w0
 have us:=Tryz.underlying26
 have hlt:=C.ht.toNat_lt
 have hln:=h.len
 obtain ⟨m1,hm1⟩:∃m,IntKind.u32.wrap ((C.win.l.length:Int) - 1 - i)=m:=⟨_,rfl⟩
 obtain ⟨m2,hm2⟩:∃m,IntKind.u32.wrap ((C.ht.toNat:Int) - m1)=m:=⟨_,rfl⟩
 refine calls_x (args:= [_,_]) tabOk Tryz.func139 Tryz.ntmps139 Tryz.results139 rfl (Nat.le_of_ble_eq_true rfl) ?_
 ((conv=>whnf))
 refine dr_autos [] 1000 tabOk (by kernel_rfl) (by decide+kernel) ?_
 replace hp:=hp.drew
 ((conv=>whnf);repeat' ((first|((with_reducible apply ar_id);first|(with_reducible refine ar_is m1 hm1 ?_)|(with_reducible refine ar_is m2 hm2 ?_)|refine ar_i64 (by omega) ?_)|((with_reducible apply ld_id);(refine ld_of ((h.keep0 hp.chg).cell rfl) ?_))|((with_reducible apply rd_id);first|(refine rd_conv tabOk rfl rfl rfl rfl ?_)|(apply rd_len;exact rfl;exact rfl;assumption)))<;>(conv=>whnf)))
 all_goals exact ps_val (v':= .int .u32 m2) rfl ⟨_,rfl,hp.chg⟩
theorem ctipW_any (h:ChW w0 b C):Calls Tryz.prog 151 #[ptr b] w0 fun e w'=>∃t:Blk,(∀y,C.win.l.getLast? =some y→t.hash=y.hash)∧e= .returned (.tuple #[t.v, .bool (decide (C.win.l≠ []))])∧Chg N0 w0 w':=by
 have hp:=Hp.start (S:=N0) w0
 have us:=Tryz.underlying26
 have hB:∀b,N0 b→w0.heap.size≤b:=fun _ hh=>hh.elim
 by_cases h0:C.win.l= []
 ·have hl:C.win.l.length=0:=by rw [h0];rfl
  rw [show decide (C.win.l≠ [])=false by simp [h0]]
  refine calls_x (args:= [_]) tabOk Tryz.func151 Tryz.ntmps151 Tryz.results151 rfl (Nat.le_of_ble_eq_true rfl) ?_
  ((conv=>whnf);repeat' ((first|((with_reducible apply br_id);first|with_reducible refine br_f ?_|((with_reducible refine br_eq (fun hx=>?_) (fun hx=>?_))<;>(try (exfalso;first|omega|contradiction))))|((with_reducible apply cn_id);refine cn rfl ?_)|((with_reducible apply ld_id);(refine ld_of ((h.keep0 hp.chg).cell rfl) ?_))|((with_reducible apply ldn_id);apply lda_hs hp;(focus repeat' constructor);exact rfl)|((with_reducible apply al_id);refine al_cel hp ?_;clear hp;intro bb w hp)|((with_reducible apply st_id);apply sta_hs hp;(focus repeat' constructor);exact rfl;exact rfl;clear hp;intro w hp;(try dsimp only [List.set] at hp))|((with_reducible apply gen_id);first|(refine gen_build (t:=51) (out:=(Blk.c ⟨Id.z,Id.z,Sl.nil⟩)) rfl (by kernel_rfl) ?_)|(apply gen_len;exact rfl;exact rfl;assumption))|((with_reducible apply cl_id);(refine cl_eq ((cnoneW_any (h.keep0 hp.chg))) rfl rfl ?_;rintro e w ⟨rfl,hcc⟩;replace hp:=hp.call0 hcc;refine ⟨_,rfl,?_⟩)))<;>(conv=>whnf)))
  exact ps_of ⟨⟨Id.z,Id.z,Sl.nil⟩,fun y hy=>(by rw [h0] at hy;cases hy),rfl,hp.chg⟩
 ·have hl:0 < C.win.l.length:=List.length_pos_iff.2 h0
  rw [show decide (C.win.l≠ [])=true by simp [h0]]
  obtain ⟨n,hn⟩:∃n:Nat,C.win.l.length=n+1:=⟨_,(Nat.sub_add_cancel hl).symm⟩
  have hn2:((C.win.l.length:Int) - 1)=(n:Nat):=by omega
  have hn3:((C.win.l.length:Int) - 1).toNat=n:=by omega
  have hlt:n < C.win.l.length:=by omega
  have hmax:n≤100:=by have:=h.len;omega
  obtain ⟨b1,o1,y,hA,hb1,hrow,hxx⟩:=h.win.row.has hlt
  have hlast:C.win.l.getLast? =some y:=by rw [List.getLast?_eq_getElem?,hn];exact hxx
  have hym:=List.mem_of_getElem? hxx
  have hcp:=fun {w:World} (hc:Chg N0 w0 w)=>copy_any ((h.keep0 hc).win.tx y hym) (by have:=h.tx y hym;omega)
  refine calls_x (args:= [_]) tabOk Tryz.func151 Tryz.ntmps151 Tryz.results151 rfl (Nat.le_of_ble_eq_true rfl) ?_
  ((conv=>whnf);repeat' ((first|((with_reducible apply br_id);first|with_reducible refine br_f ?_|((with_reducible refine br_eq (fun hx=>?_) (fun hx=>?_))<;>(try (exfalso;first|omega|contradiction))))|((with_reducible apply ld_id);(refine ld_of ((h.keep0 hp.chg).cell rfl) ?_))|((with_reducible apply al_id);refine al_cel hp ?_;clear hp;intro bb w hp)|((with_reducible apply gen_id);apply gen_len;exact rfl;exact rfl;assumption)|((with_reducible apply cl_id);(refine cl_eq ((cnoneW_any (h.keep0 hp.chg))) rfl rfl ?_;rintro e w ⟨rfl,hcc⟩;replace hp:=hp.call0 hcc;refine ⟨_,rfl,?_⟩)))<;>(conv=>whnf)))
  refine dr_autos [] 1000 tabOk (by kernel_rfl) (by decide+kernel) ?_
  replace hp:=hp.drew
  ((conv=>whnf);repeat' ((first|((with_reducible apply ar_id);refine ar_i64 (by omega) ?_)|((with_reducible apply cn_id);first|refine cn rfl ?_|refine cn ‹_› ?_)|((with_reducible apply ld_id);(refine ld_of ((h.keep0 hp.chg).cell rfl) ?_))|((with_reducible apply ldn_id);first|((refine ldn_rowx hp hB hb1 hrow n (by rw [hn3];rfl) hxx rfl ?_))|(apply lda_hs hp;(focus repeat' constructor);exact rfl))|((with_reducible apply st_id);apply sta_hs hp;(focus repeat' constructor);exact rfl;exact rfl;clear hp;intro w hp;(try dsimp only [List.set] at hp))|((with_reducible apply cl_id);(refine cl_eq (hcp hp.chg) rfl rfl ?_;rintro e w ⟨s,hs,rfl,hmd⟩;replace hp:=hp.call0 hmd.chg;replace hmd:=hmd.chg;refine ⟨_,rfl,?_⟩))|((with_reducible apply rd_id);first|(refine rd_ixs rfl rfl hA rfl rfl (by omega) ?_)|(apply rd_len;exact rfl;exact rfl;assumption)))<;>(conv=>whnf)))
  exact ps_val (v':= .tuple #[Blk.v {y with tx:=s}, .bool true]) rfl ⟨{y with tx:=s},fun z hz=>(by rw [hlast] at hz;cases hz;rfl),rfl,hp.chg⟩
theorem cfindW_any (h:ChW w0 b C) (x:Id):Calls Tryz.prog 152 #[ptr b,x.v] w0 fun e w'=>∃m,e= .returned (.tuple #[.int .u32 m, .bool (decide (x∈C.win.l.map (·.hash)))])∧Chg N0 w0 w':=by
 have hp:=Hp.start (S:=N0) w0
 have us:=Tryz.underlying26
 have hB:∀b,N0 b→w0.heap.size≤b:=fun _ hh=>hh.elim
 have hln:=h.len
 have hd:=h.dep
 refine calls_x (args:= [_,_]) tabOk Tryz.func152 Tryz.ntmps152 Tryz.results152 rfl (Nat.le_of_ble_eq_true rfl) ?_
 ((conv=>whnf);repeat' ((first|((with_reducible apply br_id);with_reducible refine br_f ?_)|((with_reducible apply ld_id);(refine ld_of ((h.keep0 hp.chg).cell rfl) ?_))|((with_reducible apply al_id);refine al_cel hp ?_;clear hp;intro bb w hp)|((with_reducible apply gen_id);apply gen_len;exact rfl;exact rfl;assumption)|((with_reducible apply cl_id);(refine cl_eq ((cnoneW_any (h.keep0 hp.chg))) rfl rfl ?_;rintro e w ⟨rfl,hcc⟩;replace hp:=hp.call0 hcc;refine ⟨_,rfl,?_⟩)))<;>(conv=>whnf)))
 obtain ⟨b3,hb3⟩:∃x:Nat,x=bb:=⟨_,rfl⟩
 subst hb3
 refine lp_inv (α:=Nat) (fun i=> [(0,ptr b),(3,ptr b3),(13,C.win.v),(14,i64 C.win.l.length),(15,i64 i)]) (fun i w=>i≤C.win.l.length∧x∉(C.win.l.take i).map (·.hash)∧Hp N0 w0 w [cel b3 48 x.c.toArray]) (fun i=>C.win.l.length - i) 0 (by (repeat' (first|exact trivial|(refine ⟨rfl,?_⟩)))) ⟨by show 0≤_;omega,by simp,hp⟩ ?_
 clear hp
 rintro i e0 w ⟨hi,hno,hp⟩
 dsimp only at hi hno hp ⊢
 rcases Nat.lt_or_ge i C.win.l.length with hlt|hge
 ·obtain ⟨b1,o1,y,hA,hb1,hrow,hyy⟩:=h.win.row.has hlt
  by_cases he:y.hash=x
  ·have hq:EqIs Tryz.prog 48 y.hash.v x.v true:=by have:=eq_id y.hash x;rwa [decide_eq_true he] at this
   have hn1:(if BinOp.eql=BinOp.eql then true else !true)=true:=rfl
   ((conv=>whnf);repeat' ((first|((with_reducible apply br_id);first|(with_reducible refine br_1 hn1 ?_)|((with_reducible refine br_dec (fun hx=>?_) (fun hx=>?_))<;>(try (exfalso;first|omega|contradiction))))|((with_reducible apply cn_id);refine cn rfl ?_)|((with_reducible apply ldn_id);first|(refine ldn_rowx hp hB ‹_› ‹_› _ rfl ‹_› rfl ?_)|(apply lda_hs hp;(focus repeat' constructor);exact rfl)|(apply ldn_hs hp;(focus repeat' constructor);exact rfl;exact rfl))|((with_reducible apply al_id);refine al_cel hp ?_;clear hp;intro bb w hp)|((with_reducible apply st_id);apply sta_hs hp;(focus repeat' constructor);exact rfl;exact rfl;clear hp;intro w hp;(try dsimp only [List.set] at hp))|((with_reducible apply gen_id);first|(refine gen_ixs rfl rfl ‹_› rfl rfl (by omega) ?_)|(refine gen_eqa rfl rfl rfl hq (by kernel_rfl) (.inl rfl) ?_)))<;>(conv=>whnf)))
   refine cl_eq (catW_any (h.keep0 hp.chg) hlt) rfl rfl ?_
   rintro e w ⟨m,rfl,hcc⟩
   replace hp:=hp.call0 hcc
   refine ⟨_,rfl,?_⟩
   ((conv=>whnf))
   exact ps_val (v':= .tuple #[.int .u32 m, .bool true]) rfl ⟨m,by rw [decide_eq_true];exact List.mem_map.2 ⟨y,List.mem_of_getElem? hyy,he⟩,hp.chg⟩
  ·have hq:EqIs Tryz.prog 48 y.hash.v x.v false:=by have:=eq_id y.hash x;rwa [decide_eq_false he] at this
   have hn0:(if BinOp.eql=BinOp.eql then false else !false)=false:=rfl
   ((conv=>whnf);repeat' ((first|((with_reducible apply br_id);first|(with_reducible refine br_0 hn0 ?_)|((with_reducible refine br_dec (fun hx=>?_) (fun hx=>?_))<;>(try (exfalso;first|omega|contradiction))))|((with_reducible apply ar_id);refine ar_i64 (by omega) ?_)|((with_reducible apply cn_id);refine cn rfl ?_)|((with_reducible apply ldn_id);first|(refine ldn_rowx hp hB ‹_› ‹_› _ rfl ‹_› rfl ?_)|(apply lda_hs hp;(focus repeat' constructor);exact rfl)|(apply ldn_hs hp;(focus repeat' constructor);exact rfl;exact rfl))|((with_reducible apply al_id);refine al_cel hp ?_;clear hp;intro bb w hp)|((with_reducible apply st_id);apply sta_hs hp;(focus repeat' constructor);exact rfl;exact rfl;clear hp;intro w hp;(try dsimp only [List.set] at hp))|((with_reducible apply gen_id);first|(refine gen_ixs rfl rfl ‹_› rfl rfl (by omega) ?_)|(refine gen_eqa rfl rfl rfl hq (by kernel_rfl) (.inl rfl) ?_)))<;>(conv=>whnf)))
   refine lp_next (i+1) (by show C.win.l.length - (i+1) < C.win.l.length - i;omega) (by (repeat' (first|exact trivial|(refine ⟨rfl,?_⟩)))) ⟨by show i+1≤_;omega,?_,hp.pick (rs':= [_]) [1] (by decide) rfl⟩
   rw [List.take_add_one,hyy,List.map_append,List.mem_append]
   rintro (hh|hh)
   ·exact hno hh
   ·simp at hh
    exact he hh.symm
 ·rw [List.take_of_length_le hge] at hno
  ((conv=>whnf);repeat' (((with_reducible apply br_id);(with_reducible refine br_dec (fun hx=>?_) (fun hx=>?_))<;>(try (exfalso;first|omega|contradiction)))<;>(conv=>whnf)))
  exact ps_val (v':= .tuple #[.int .u32 0, .bool false]) rfl ⟨0,by rw [decide_eq_false hno],hp.chg⟩
def lastOk (x:Blk):Option Blk→Bool
 |some y=>decide (x.parent=y.hash)
 |none=>true
def nextOk (l:List Blk) (x:Blk):Bool:=rightB x && (lastOk x l.getLast? && decide (x.hash∉l.map (·.hash)))
theorem cmayW_any (h:ChW w0 b C) (h0:C.ht=0) {x:Blk} {D:Nat} (hx:SlAt D w0 Id.c 32 x.tx):Calls Tryz.prog 128 #[ptr b,x.v] w0 fun e w'=>∃E:Int,(decide (E=0)=nextOk C.win.l x)∧e= .returned (i64 E)∧Chg N0 w0 w':=by
 have hp:=Hp.start (S:=N0) w0
 have hD:∀b,N0 b→D≤b:=fun _ hh=>hh.elim
 have hri:=fun {w:World} (hc:Chg N0 w0 w)=>blkright_any (hx.keep hc hD)
 obtain ⟨R,hR⟩:∃R,rightB x=R:=⟨_,rfl⟩
 obtain ⟨q0,hq0⟩:∃q,decide (C.win.l≠ [])=q:=⟨_,rfl⟩
 obtain ⟨q1,hq1⟩:∃q,decide (x.hash∈C.win.l.map (·.hash))=q:=⟨_,rfl⟩
 have hht:(C.ht.toNat:Int)=0:=by rw [h0];rfl
 have htp:=fun {w:World} (hc:Chg N0 w0 w)=>ctipW_any (h.keep0 hc)
 have hfi:=fun {w:World} (hc:Chg N0 w0 w)=>cfindW_any (h.keep0 hc) x.hash
 have hN:nextOk C.win.l x=(R && (lastOk x C.win.l.getLast? && !q1)):=by
  unfold nextOk
  rw [hR,←hq1,decide_not]
 rw [hq0] at htp
 rw [hq1] at hfi
 rw [hR] at hri
 rw [hN]
 refine calls_x (args:= [_,_]) tabOk Tryz.func128 Tryz.ntmps128 Tryz.results128 rfl (Nat.le_of_ble_eq_true rfl) ?_
 ((conv=>whnf);repeat' ((first|((with_reducible apply br_id);with_reducible refine br_f ?_)|((with_reducible apply al_id);refine al_cel hp ?_;clear hp;intro bb w hp)|((with_reducible apply cl_id);(refine cl_eq ((cnoneW_any (h.keep0 hp.chg))) rfl rfl ?_;rintro e w ⟨rfl,hcc⟩;replace hp:=hp.call0 hcc;refine ⟨_,rfl,?_⟩)))<;>(conv=>whnf)))
 refine cl_eq (htp hp.chg) rfl rfl ?_
 rintro e w ⟨t,hth,rfl,hcc⟩
 replace hp:=hp.call0 hcc
 refine ⟨_,rfl,?_⟩
 obtain ⟨q2,hq2⟩:∃q,decide (x.parent=t.hash)=q:=⟨_,rfl⟩
 have hch:=bchild_any (p:=t) (x:=x)
 rw [hq2] at hch
 have hM:lastOk x C.win.l.getLast? =(!q0|| q2):=by
  cases hl:C.win.l.getLast? with
  |none=>
   rw [←hq0,List.getLast?_eq_none_iff.1 hl]
   rfl
  |some y=>
   have:C.win.l≠ []:=by rintro e;rw [e] at hl;cases hl
   rw [←hq0,decide_eq_true this,←hq2,hth y hl]
   rfl
 rw [hM]
 clear hM hth hN
 ((conv=>whnf);repeat' ((first|((with_reducible apply cn_id);refine cn rfl ?_)|((with_reducible apply ldn_id);apply ldn_hs hp;(focus repeat' constructor);exact rfl;exact rfl)|((with_reducible apply al_id);refine al_cel hp ?_;clear hp;intro bb w hp)|((with_reducible apply st_id);apply sta_hs hp;(focus repeat' constructor);exact rfl;exact rfl;clear hp;intro w hp;(try dsimp only [List.set] at hp)))<;>(conv=>whnf)))
 refine cl_eq (hfi hp.chg) rfl rfl ?_
 rintro e w ⟨m,rfl,hcc⟩
 replace hp:=hp.call0 hcc
 refine ⟨_,rfl,?_⟩
 ((conv=>whnf);repeat' ((first|((with_reducible apply br_id);first|with_reducible refine br_t ?_|with_reducible refine br_f ?_|with_reducible refine br_not ?_|((with_reducible refine br_eq (fun hx=>?_) (fun hx=>?_))<;>(try (exfalso;first|omega|contradiction)))|((with_reducible refine br_s (fun hx=>?_) (fun hx=>?_))<;>(try (exfalso;first|omega|contradiction))))|((with_reducible apply ld_id);(refine ld_of ((h.keep0 hp.chg).cell rfl) ?_))|((with_reducible apply ldn_id);apply lda_hs hp;(focus repeat' constructor);exact rfl)|((with_reducible apply cl_id);first|((refine cl_eq ((hri hp.chg)) rfl rfl ?_;rintro e w ⟨rfl,hcc⟩;replace hp:=hp.call0 hcc;refine ⟨_,rfl,?_⟩))|((refine cl_eq ((hch _)) rfl rfl ?_;rintro e w ⟨rfl,hcc⟩;replace hp:=hp.call0 hcc;refine ⟨_,rfl,?_⟩))))<;>(conv=>whnf)))
 all_goals (try simp only [Bool.not_eq_true,Bool.not_eq_false'] at*)
 all_goals first
  |exact ps_val (v':=i64 0) rfl ⟨0,by simp_all,rfl,hp.chg⟩
  |exact ps_val (v':=i64 4) rfl ⟨4,by simp_all,rfl,hp.chg⟩
  |exact ps_val (v':=i64 19) rfl ⟨19,by simp_all,rfl,hp.chg⟩
  |exact ps_val (v':=i64 16) rfl ⟨16,by simp_all,rfl,hp.chg⟩
end
theorem fits_any (w0:World) (d:Int):Calls Tryz.prog 127 #[i64 d] w0 fun e w'=>e= .returned (.bool (decide (1≤d∧d≤16)))∧Chg N0 w0 w':=by
 have hp:=Hp.start (S:=N0) w0
 by_cases h1:1≤d
 ·refine calls_x (args:= [_]) tabOk Tryz.func127 Tryz.ntmps127 Tryz.results127 rfl (Nat.le_of_ble_eq_true rfl) ?_
  ((conv=>whnf);repeat' (((with_reducible apply br_id);first|with_reducible refine br_t ?_|((with_reducible refine br_dec (fun hx=>?_) (fun hx=>?_))<;>(try (exfalso;first|omega|contradiction))))<;>(conv=>whnf)))
  all_goals exact ps_val (v':= .bool (decide (d≤16))) rfl ⟨congrArg (fun b=>Ending.returned (.bool b)) (decide_eq_decide.2 (by omega)),hp.chg⟩
 ·refine calls_x (args:= [_]) tabOk Tryz.func127 Tryz.ntmps127 Tryz.results127 rfl (Nat.le_of_ble_eq_true rfl) ?_
  ((conv=>whnf);repeat' (((with_reducible apply br_id);first|with_reducible refine br_f ?_|((with_reducible refine br_dec (fun hx=>?_) (fun hx=>?_))<;>(try (exfalso;first|omega|contradiction))))<;>(conv=>whnf)))
  all_goals exact ps_val (v':= .bool false) rfl ⟨congrArg (fun b=>Ending.returned (.bool b)) (decide_eq_false (by omega)).symm,hp.chg⟩
abbrev chlRs (b:Nat) (C:Chn):List Res:= [cel b 196 C.c.toArray,star (winRs C.win)]
theorem nextOk_at {W l:List Blk} {i:Nat} {y:Blk} (h:W.map Blk.p=(l.take i).map Blk.p) (hy:l[i]? =some y):nextOk W y=winAt l i:=by
 have hi:=(List.getElem?_eq_some_iff.1 hy).1
 have h1:W.map (·.hash)=(l.take i).map (·.hash):=by
  have e:∀l:List Blk,l.map (·.hash)=(l.map Blk.p).map (·.hash):=fun l=>by rw [List.map_map];rfl
  rw [e,e,h]
 have h2:(W.getLast?).map Blk.p=((l.take i).getLast?).map Blk.p:=by rw [←List.getLast?_map,←List.getLast?_map,h]
 have e2:∀o o':Option Blk,o.map Blk.p=o'.map Blk.p→lastOk y o=lastOk y o':=fun o o' e=>by
  cases o<;>cases o'<;>simp only [Option.map_some,Option.map_none,reduceCtorEq,Option.some.injEq] at e
  ·rfl
  ·exact congrArg (fun z:BlkP=>decide (y.parent=z.hash)) e
 unfold nextOk winAt
 rw [hy,h1,e2 _ _ h2]
 dsimp only
 congr 2
 cases i with
 |zero=>rfl
 |succ k=>
  have h3:(l.take (k+1)).getLast? =l[k]? :=by
   rw [List.getLast?_eq_getElem?,List.length_take,Nat.min_eq_left (by omega)]
   simp
  rw [h3]
  dsimp only
  cases l[k]? <;>rfl
theorem winAt_tx {l:List Blk} {n:Nat} (h:∀k,k < n→winAt l k=true):∀c∈l.take n,c.tx.l.length≤32:=fun c hc=>by
 obtain ⟨k,hk⟩:=List.getElem?_of_mem hc
 have hkn:k < n:=by
  have:=(List.getElem?_eq_some_iff.1 hk).1
  rw [List.length_take] at this
  omega
 have h1:=h k hkn
 rw [List.getElem?_take_of_lt hkn] at hk
 unfold winAt at h1
 rw [hk] at h1
 dsimp only at h1
 rw [Bool.and_eq_true] at h1
 have h2:=h1.1
 unfold rightB at h2
 simp only [Bool.and_eq_true,decide_eq_true_eq] at h2
 exact h2.1.1
theorem chload_any {B:Nat} {w0:World} (d:Int) (ht:UInt32) {s:Sl Blk} (h:SlAt B w0 Blk.c 65 s) (htx:∀b∈s.l,SlAt B w0 Id.c 32 b.tx):Calls Tryz.prog 99 #[i64 d,u32 ht,s.v] w0 fun e w'=>
  (chS d ht s.l=false∧e= .returned (.tuple #[.pointer none,i64 1])∧Chg N0 w0 w')∨(chS d ht s.l=true∧∃b W,W.l.map Blk.p=s.l.map Blk.p∧e= .returned (.tuple #[ptr b,i64 0])∧Made (star (chlRs b ⟨d,ht,W⟩)) w0 w'):=by
 have hp:=Hp.start (S:=N0) w0
 have hB:∀b,N0 b→B≤b:=fun _ hh=>hh.elim
 have u3:=Tryz.underlying26
 have hmax:s.l.length≤9223372036854775807:=by have:=h.le;have:=h.max;simp only [maxLen] at this;omega
 have hht:ht.toNat < 4294967296:=ht.toNat_lt
 have hno:∀{w:World},¬(1≤d∧d≤16∧(s.l.length:Int)≤d+1∧s.l.length≤ht.toNat)→Chg N0 w0 w→∀{v:Value},v= .tuple #[.pointer none,i64 1]→(chS d ht s.l=false∧Ending.returned v= .returned (.tuple #[.pointer none,i64 1])∧Chg N0 w0 w)∨(chS d ht s.l=true∧∃b W,W.l.map Blk.p=s.l.map Blk.p∧Ending.returned v= .returned (.tuple #[ptr b,i64 0])∧Made (star (chlRs b ⟨d,ht,W⟩)) w0 w):=fun hn hc v hv=>by
  subst hv
  exact .inl ⟨by unfold chS;rw [decide_eq_false hn];rfl,rfl,hc⟩
 by_cases hf:1≤d∧d≤16
 ·have hfi:=fun w=>fits_any w d
  rw [decide_eq_true hf] at hfi
  refine calls_x (args:= [_,_,_]) tabOk Tryz.func99 Tryz.ntmps99 Tryz.results99 rfl (Nat.le_of_ble_eq_true rfl) ?_
  ((conv=>whnf);repeat' ((first|((with_reducible apply br_id);first|with_reducible refine br_t ?_|with_reducible refine br_f ?_|with_reducible refine br_not ?_|((with_reducible refine br_dec (fun hx=>?_) (fun hx=>?_))<;>(try (exfalso;first|omega|contradiction))))|((with_reducible apply ar_id);first|refine ar_i64 (by omega) ?_|refine ar_u64 (by omega) ?_)|((with_reducible apply al_id);refine al_cel hp ?_;clear hp;intro bb w hp)|((with_reducible apply gen_id);first|(apply gen_build;exact rfl;exact rfl)|(apply gen_len;exact rfl;exact rfl;assumption))|((with_reducible apply cl_id);(refine cl_eq ((hfi _)) rfl rfl ?_;rintro e w ⟨rfl,hcc⟩;replace hp:=hp.call0 hcc;refine ⟨_,rfl,?_⟩)))<;>(conv=>whnf)))
  iterate 4 (try (refine ps_val (v':= .tuple #[.pointer none,i64 1]) rfl (hno (by omega) hp.chg rfl)))
  have hlen:(s.l.length:Int)≤d+1:=by omega
  have hle:s.l.length≤ht.toNat:=by omega
  have hdec:chS d ht s.l=(List.range s.l.length).all (winAt s.l):=by unfold chS;rw [decide_eq_true ⟨hf.1,hf.2,hlen,hle⟩,Bool.true_and]
  obtain ⟨b8,hb8⟩:∃b,b=bb:=⟨_,rfl⟩
  subst hb8
  have hp0:Hp N0 w0 w (cel b8 196 (Chn.c ⟨d,0,Sl.nil⟩).toArray::winRs Sl.nil):=(hp.nilRow 51 65 Blk.c).perm (.swap ..)
  clear hp
  refine lp_inv (α:=Nat×Sl Blk) (fun a=> [(1,u32 ht),(8,ptr b8),(32,s.v),(33,i64 s.l.length),(34,i64 a.1)]) (fun a w=>a.1≤s.l.length∧a.2.l.map Blk.p=(s.l.take a.1).map Blk.p∧(∀k,k < a.1→winAt s.l k=true)∧Hp N0 w0 w (cel b8 196 (Chn.c ⟨d,0,a.2⟩).toArray::winRs a.2)) (fun a=>s.l.length - a.1) (0,Sl.nil) (by (repeat' (first|exact trivial|(refine ⟨rfl,?_⟩)))) ⟨by omega,rfl,fun k hk=>absurd hk (by omega),hp0⟩ ?_
  clear hp0
  rintro ⟨i,W⟩ e0 w ⟨hi,hW,hall,hp⟩
  dsimp only at hi hW hall hp ⊢
  have hWl:W.l.length=i:=by
   have:=congrArg List.length hW
   rw [List.length_map,List.length_map,List.length_take] at this
   omega
  have hWtx:∀c∈W.l,c.tx.l.length≤32:=fun c hc=>by
   have h1:c.p∈(s.l.take i).map Blk.p:=hW▸List.mem_map_of_mem hc
   obtain ⟨c',hc',he⟩:=List.mem_map.1 h1
   have h2:=winAt_tx hall c' hc'
   have h3:c'.tx.l=c.tx.l:=congrArg BlkP.txs he
   rw [←h3]
   exact h2
  rcases Nat.lt_or_ge i s.l.length with hlt|hge
  ·obtain ⟨b,o,y,hA,hbb,hrow,hyy⟩:=h.has hlt
   have hmem:=List.mem_of_getElem? hyy
   have hya:=htx y hmem
   have hnx:=nextOk_at hW hyy
   have hcw:∀{w:World} {r:Res},Hp N0 w0 w (r::cel b8 196 (Chn.c ⟨d,0,W⟩).toArray::winRs W)→ChW w b8 ⟨d,0,W⟩:=fun {w r} hp=>by
    refine ⟨hp.cel_get (j:=1) rfl,⟨hp.row (j:=2) rfl,fun c hc=>rowR_at (e:=48) (hp.ok (btxR c) ?_)⟩,hf,by show W.l.length≤17;omega,hWtx⟩
    exact List.mem_cons_of_mem _ (List.mem_cons_of_mem _ (List.mem_cons_of_mem _ (List.mem_map_of_mem hc)))
   ((conv=>whnf);repeat' ((first|((with_reducible apply br_id);(with_reducible refine br_dec (fun hx=>?_) (fun hx=>?_))<;>(try (exfalso;first|omega|contradiction)))|((with_reducible apply cn_id);refine cn rfl ?_)|((with_reducible apply ldn_id);first|(refine ldn_rowx hp hB ‹_› ‹_› _ rfl ‹_› rfl ?_)|(apply lda_hs hp;(focus repeat' constructor);exact rfl))|((with_reducible apply al_id);refine al_cel hp ?_;clear hp;intro bb w hp)|((with_reducible apply st_id);apply sta_hs hp;(focus repeat' constructor);exact rfl;exact rfl;clear hp;intro w hp;(try dsimp only [List.set] at hp))|((with_reducible apply gen_id);(refine gen_ixs rfl rfl ‹_› rfl rfl (by omega) ?_)))<;>(conv=>whnf)))
   refine cl_eq (cmayW_any (hcw hp) rfl (hya.keep hp.chg hB)) rfl rfl ?_
   rintro e w ⟨E,hE,rfl,hcc⟩
   replace hp:=hp.call0 hcc
   refine ⟨_,rfl,?_⟩
   rw [hnx] at hE
   by_cases hE0:E=0
   ·subst hE0
    have hwi:winAt s.l i=true:=by rw [←hE];rfl
    have hytx:y.tx.l.length≤32:=by
     refine winAt_tx (l:=s.l) (n:=i+1) (fun k hk=>?_) y ?_
     ·rcases Nat.lt_or_ge k i with h1|h1
      ·exact hall k h1
      ·obtain rfl:k=i:=by omega
       exact hwi
     ·rw [List.take_add_one,hyy]
      simp
    ((conv=>whnf);repeat' ((first|((with_reducible apply br_id);(with_reducible refine br_ne (fun hx=>?_) (fun hx=>?_))<;>(try (exfalso;first|omega|contradiction)))|((with_reducible apply ld_id);apply ld_hs hp;(focus repeat' constructor);exact rfl)|((with_reducible apply ldn_id);apply lda_hs hp;(focus repeat' constructor);exact rfl)|((with_reducible apply dr_id);(refine dr_autos [] 8 tabOk (by kernel_rfl) (by decide+kernel) ?_);replace hp:=hp.drew))<;>(conv=>whnf)))
    refine cl_eq (copy_any (hya.keep hp.chg hB) (by omega)) rfl rfl ?_
    rintro e w ⟨t,hs,rfl,hm⟩
    replace hp:=hp.add hm
    replace hm:=hm.chg
    refine ⟨_,rfl,?_⟩
    ((conv=>whnf);repeat' ((first|((with_reducible apply ar_id);refine ar_i64 (by omega) ?_)|((with_reducible apply cn_id);first|refine cn rfl ?_|refine cn ‹_› ?_)|((with_reducible apply st_id);apply st_hs hp;(focus repeat' constructor);exact rfl;exact rfl;clear hp;intro w hp;(try dsimp only [List.set] at hp))|((with_reducible apply gen_id);first|((refine gen_bs rfl hp el_blkS Blk.c [{y with tx:=t}] [Blk.v {y with tx:=t}] rfl rfl rfl (fun _ hh=>by simp at hh;subst hh;rfl) (by omega) ?_);clear hp;intro br w hp)|((refine gen_app (s:=W) rfl hp 4 rfl el_blkS rfl ⟨some ⟨br,0,none⟩,1, [{y with tx:=t}]⟩ rfl (hp.row (j:=0) rfl) (fun _ _=>rfl) blk_oneS (by simp only [List.length_cons,List.length_nil];omega) (by simp only [maxLen,List.length_cons,List.length_nil];omega) ?_);clear hp;intro A2 c2 w hp;dsimp only [List.set] at hp)))<;>(conv=>whnf)))
    refine lp_next (i+1,⟨A2,c2,W.l++ [{y with tx:=t}]⟩) (by show s.l.length - (i+1) < s.l.length - i;omega) (by (repeat' (first|exact trivial|(refine ⟨rfl,?_⟩)))) ⟨by show i+1≤_;omega,?_,?_,?_⟩
    ·show (W.l++ [_]).map Blk.p=_
     rw [List.take_add_one,hyy,List.map_append,List.map_append,hW]
     simp [Blk.p,hs]
    ·intro k hk
     rcases Nat.lt_or_ge k i with h1|h1
     ·exact hall k h1
     ·have hk':k < i+1:=hk
      obtain rfl:k=i:=by omega
      exact hwi
    ·have h1:=hp.tail.sub (rs':=_::_::_::W.l.map btxR) (List.Sublist.cons_cons _ (List.Sublist.cons _ (List.Sublist.refl _)))
     have h2:=h1.perm (List.perm_append_singleton _ _).symm
     show Hp N0 w0 w (_::_::(W.l++ [_]).map btxR)
     rw [List.map_append]
     exact h2
   ·have hwi:winAt s.l i=false:=by rw [←hE,decide_eq_false hE0]
    ((conv=>whnf);repeat' (((with_reducible apply br_id);(with_reducible refine br_ne (fun hx=>?_) (fun hx=>?_))<;>(try (exfalso;first|omega|contradiction)))<;>(conv=>whnf)))
    refine ps_val (v':= .tuple #[.pointer none,i64 1]) rfl (.inl ⟨?_,rfl,hp.chg⟩)
    rw [hdec,List.all_eq_false]
    exact ⟨i,List.mem_range.2 hlt,by rw [hwi];simp⟩
  ·rw [List.take_of_length_le hge] at hW
   ((conv=>whnf);repeat' ((first|((with_reducible apply br_id);(with_reducible refine br_dec (fun hx=>?_) (fun hx=>?_))<;>(try (exfalso;first|omega|contradiction)))|((with_reducible apply cn_id);refine cn rfl ?_)|((with_reducible apply st_id);apply st_hs hp;(focus repeat' constructor);exact rfl;exact rfl;clear hp;intro w hp;(try dsimp only [List.set] at hp)))<;>(conv=>whnf)))
   refine ps_val (v':= .tuple #[ptr b8,i64 0]) rfl (.inr ⟨?_,b8,W,hW,rfl,?_⟩)
   ·rw [hdec,List.all_eq_true]
    exact fun k hk=>hall k (by have:=List.mem_range.1 hk;omega)
   ·have h1:=(hp.perm (List.perm_append_comm (l₁:= [_]) (l₂:=winRs W))).fold (winRs W).length
    rw [List.take_left,List.drop_left] at h1
    exact (h1.perm (.swap ..)).made (.refl _)
 ·have hfi:=fun w=>fits_any w d
  rw [decide_eq_false hf] at hfi
  refine calls_x (args:= [_,_,_]) tabOk Tryz.func99 Tryz.ntmps99 Tryz.results99 rfl (Nat.le_of_ble_eq_true rfl) ?_
  ((conv=>whnf);repeat' ((first|((with_reducible apply br_id);first|with_reducible refine br_t ?_|with_reducible refine br_f ?_|with_reducible refine br_not ?_)|((with_reducible apply cl_id);(refine cl_eq ((hfi _)) rfl rfl ?_;rintro e w ⟨rfl,hcc⟩;replace hp:=hp.call0 hcc;refine ⟨_,rfl,?_⟩)))<;>(conv=>whnf)))
  exact ps_val (v':= .tuple #[.pointer none,i64 1]) rfl (hno (by omega) hp.chg rfl)
def byId (W:List Sess) (id:UInt32):Option Sess:=W.find? fun s=>decide (s.id=id)
theorem byId_mem {W:List Sess} {id:UInt32} {s:Sess} (h:byId W id=some s):s∈W∧s.id=id:=⟨List.mem_of_find?_eq_some h,by simpa using List.find?_some h⟩
theorem byId_none {W:List Sess} {id:UInt32} (h:byId W id=none):∀s∈W,s.id≠id:=fun s hs=>by
 have:=List.find?_eq_none.1 h s hs
 simpa using this
def fndI (W:List Sess) (id:UInt32):Int:=if (byId W id).isSome then (W.findIdx fun s=>decide (s.id=id):Nat) else -1
theorem fnd_cases (W:List Sess) (id:UInt32):(∃i x,W[i]? =some x∧x.id=id∧(∀y∈W.take i,y.id≠id)∧byId W id=some x∧fndI W id=(i:Nat))∨((∀y∈W,y.id≠id)∧byId W id=none∧fndI W id= -1):=by
 cases hb:byId W id with
 |none=>exact .inr ⟨byId_none hb,rfl,by unfold fndI;rw [hb];rfl⟩
 |some x=>
  obtain ⟨h1,h2⟩:=byId_mem hb
  have hlt:(W.findIdx fun s=>decide (s.id=id)) < W.length:=List.findIdx_lt_length.2 ⟨x,h1,by simpa using h2⟩
  have hge:decide ((W[W.findIdx fun s=>decide (s.id=id)]).id=id)=true:=List.findIdx_getElem (w:=hlt)
  have hall:∀y∈W.take (W.findIdx fun s=>decide (s.id=id)),y.id≠id:=fun y hy=>by
   obtain ⟨j,hj,rfl⟩:=List.getElem_of_mem hy
   rw [List.length_take] at hj
   rw [List.getElem_take]
   have:=List.not_of_lt_findIdx (p:=fun s:Sess=>decide (s.id=id)) (xs:=W) (i:=j) (by omega)
   simpa using this
  refine .inl ⟨_,_,List.getElem?_eq_getElem hlt,by simpa using hge,hall,?_,by unfold fndI;rw [hb];rfl⟩
  have hsp:W=W.take (W.findIdx fun s=>decide (s.id=id))++W[W.findIdx fun s=>decide (s.id=id)]::W.drop ((W.findIdx fun s=>decide (s.id=id))+1):=by
   rw [List.getElem_cons_drop,List.take_append_drop]
  rw [←hb]
  unfold byId
  conv=>lhs;rw [hsp]
  rw [List.find?_append,List.find?_eq_none.2 fun y hy=>by simpa using hall y hy,List.find?_cons,hge]
  rfl
theorem eq_sess (x y:Sess):EqIs Tryz.prog 103 x.v y.v (decide (x=y)):=eqis_of (fs:=Tryz.prog.fieldsOf 103) (by kernel_rfl) (by kernel_rfl) fun w=>by
 have h0:=eqf_cons (P:=Tryz.prog) (w:=w) (d:=9999) (xs:= #[u32 x.id,u32 x.quota,u32 x.used,u32 x.exp]) (ys:= #[u32 y.id,u32 y.quota,u32 y.used,u32 y.exp]) (f:=((Tryz.prog.fieldsOf 103)[0]?).getD default) (by decide+kernel) (part_word (n:=1) (by kernel_rfl) (v:=u32 x.id) (by kernel_rfl)) (part_word (n:=1) (by kernel_rfl) (v:=u32 y.id) (by kernel_rfl)) (run_equalIn_int w 9998 _ .u32 .u32 _ _ (by kernel_rfl)) (eqf_cons (f:=((Tryz.prog.fieldsOf 103)[1]?).getD default) (by decide+kernel) (part_word (n:=1) (by kernel_rfl) (v:=u32 x.quota) (by kernel_rfl)) (part_word (n:=1) (by kernel_rfl) (v:=u32 y.quota) (by kernel_rfl)) (run_equalIn_int w 9998 _ .u32 .u32 _ _ (by kernel_rfl)) (eqf_cons (f:=((Tryz.prog.fieldsOf 103)[2]?).getD default) (by decide+kernel) (part_word (n:=1) (by kernel_rfl) (v:=u32 x.used) (by kernel_rfl)) (part_word (n:=1) (by kernel_rfl) (v:=u32 y.used) (by kernel_rfl)) (run_equalIn_int w 9998 _ .u32 .u32 _ _ (by kernel_rfl)) (eqf_cons (f:=((Tryz.prog.fieldsOf 103)[3]?).getD default) (by decide+kernel) (part_word (n:=1) (by kernel_rfl) (v:=u32 x.exp) (by kernel_rfl)) (part_word (n:=1) (by kernel_rfl) (v:=u32 y.exp) (by kernel_rfl)) (run_equalIn_int w 9998 _ .u32 .u32 _ _ (by kernel_rfl)) eqf_nil)))
 rw [u32_eq,u32_eq,u32_eq,u32_eq] at h0
 have e:(decide (x.id=y.id) && (decide (x.quota=y.quota) && (decide (x.used=y.used) && (decide (x.exp=y.exp) && true))))=decide (x=y):=by
  rw [Bool.eq_iff_iff]
  cases x;cases y
  simp
 rw [e] at h0
 exact h0
theorem rfind23_any {B:Nat} {w0:World} {L:Sl Sess} (h:SlAt B w0 Sess.c 4 L) (id:UInt32) (hm:L.l.length≤10000):Calls Tryz.prog 93 #[L.v,u32 id] w0 fun e w'=>e= .returned (i64 (fndI L.l id))∧Chg N0 w0 w':=by
 have hp:=Hp.start (S:=N0) w0
 have hB:∀b,N0 b→B≤b:=fun _ hh=>hh.elim
 have us:=Tryz.underlying27
 refine calls_x (args:= [_,_]) tabOk Tryz.func93 Tryz.ntmps93 Tryz.results93 rfl (Nat.le_of_ble_eq_true rfl) ?_
 ((conv=>whnf))
 refine lp_inv (α:=Nat) (fun i=> [(0,L.v),(1,u32 id),(5,i64 i)]) (fun i w=>i≤L.l.length∧(∀y∈L.l.take i,y.id≠id)∧Hp N0 w0 w []) (fun i=>L.l.length - i) 0 (by (repeat' (first|exact trivial|(refine ⟨rfl,?_⟩)))) ⟨by omega,by simp,hp⟩ ?_
 clear hp
 rintro i e0 w ⟨hi,hall,hp⟩
 dsimp only at hi hall hp ⊢
 rcases Nat.lt_or_ge i L.l.length with hlt|hge
 ·obtain ⟨b1,o1,x,hA,hb1,hrow,hxx⟩:=h.has hlt
  by_cases hxi:x.id=id
  ·have hfi:fndI L.l id=(i:Nat):=by
    rcases fnd_cases L.l id with ⟨j,y,h1,h2,h3,h4,h5⟩|⟨h1,_⟩
    ·rw [h5]
     rcases Nat.lt_trichotomy i j with h6|h6|h6
     ·exact absurd hxi (h3 x (List.mem_of_getElem? (l:=L.l.take j) (i:=i) (by rw [List.getElem?_take_of_lt h6];exact hxx)))
     ·rw [h6]
     ·exact absurd h2 (hall y (List.mem_of_getElem? (l:=L.l.take i) (i:=j) (by rw [List.getElem?_take_of_lt h6];exact h1)))
    ·exact absurd hxi (h1 x (List.mem_of_getElem? hxx))
   rw [hfi]
   subst hxi
   ((conv=>whnf);repeat' ((first|((with_reducible apply br_id);first|((with_reducible refine br_dec (fun hx=>?_) (fun hx=>?_))<;>(try (exfalso;first|omega|contradiction)))|((with_reducible refine br_eq (fun hx=>?_) (fun hx=>?_))<;>(try (exfalso;first|omega|contradiction))))|((with_reducible apply ld_id);(refine ld_row hp hB ‹_› ‹_› _ _ rfl ‹_› (by rfl) ?_))|((with_reducible apply gen_id);first|(refine gen_ixs rfl rfl ‹_› rfl rfl (by omega) ?_)|(apply gen_len;exact rfl;exact rfl;assumption)))<;>(conv=>whnf)))
   all_goals exact ps_val (v':=i64 i) rfl ⟨rfl,hp.chg⟩
  ·have hne:x.id.toNat≠id.toNat:=fun he=>hxi (UInt32.toNat_inj.1 he)
   ((conv=>whnf);repeat' ((first|((with_reducible apply br_id);first|((with_reducible refine br_dec (fun hx=>?_) (fun hx=>?_))<;>(try (exfalso;first|omega|contradiction)))|((with_reducible refine br_eq (fun hx=>?_) (fun hx=>?_))<;>(try (exfalso;first|omega|contradiction))))|((with_reducible apply ar_id);refine ar_i64 (by omega) ?_)|((with_reducible apply ld_id);(refine ld_row hp hB ‹_› ‹_› _ _ rfl ‹_› (by rfl) ?_))|((with_reducible apply gen_id);first|(refine gen_ixs rfl rfl ‹_› rfl rfl (by omega) ?_)|(apply gen_len;exact rfl;exact rfl;assumption)))<;>(conv=>whnf)))
   all_goals
    refine lp_next (i+1) (by show L.l.length - (i+1) < L.l.length - i;omega) (by (repeat' (first|exact trivial|(refine ⟨rfl,?_⟩)))) ⟨by show i+1≤_;omega,fun y hy=>?_,hp⟩
    rw [List.take_add_one,hxx] at hy
    rcases List.mem_append.1 hy with hy|hy
    ·exact hall y hy
    ·simp at hy
     subst hy
     exact hxi
 ·have hfi:fndI L.l id= -1:=by
   rw [List.take_of_length_le hge] at hall
   rcases fnd_cases L.l id with ⟨j,y,h1,h2,_⟩|⟨_,_,h3⟩
   ·exact absurd h2 (hall y (List.mem_of_getElem? h1))
   ·exact h3
  rw [hfi]
  ((conv=>whnf);repeat' ((first|((with_reducible apply br_id);(with_reducible refine br_dec (fun hx=>?_) (fun hx=>?_))<;>(try (exfalso;first|omega|contradiction)))|((with_reducible apply gen_id);apply gen_len;exact rfl;exact rfl;assumption))<;>(conv=>whnf)))
  all_goals exact ps_val (v':=i64 (-1)) rfl ⟨rfl,hp.chg⟩
end Go.Proofs.YtpbapnlnheahnaaGreatDoor
