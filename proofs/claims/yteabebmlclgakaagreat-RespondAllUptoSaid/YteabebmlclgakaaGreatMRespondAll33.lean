/- MRespondAll33: Tab23, Tab23b, Tab23c, Book6, Respond. -/
import Derived.Test.YteabebmlclgakaaGreatMRespondAll7
import Derived.Test.YteabebmlclgakaaGreatMRespondAll32
import Derived.Test.YteabebmlclgakaaGreatMRespondAll11
import Derived.Test.YteabebmlclgakaaGreatMRespondAll9
import Derived.Test.YteabebmlclgakaaGreatMRespondAll8
import Derived.Test.YteabebmlclgakaaGreatMRespondAll18
import Derived.Test.YteabebmlclgakaaGreatMRespondAllsTailS
import Derived.Test.YteabebmlclgakaaGreatMRespondAll23
import Derived.Test.YteabebmlclgakaaGreatMRespondAll25
import Derived.Test.YteabebmlclgakaaGreatMRespondAll6
import Derived.Test.YteabebmlclgakaaGreatMRespondAll16
set_option linter.unusedSimpArgs false
set_option linter.unusedVariables false
/- Tab23: package session's table: what its methods read; End, Clone, the sorted lists. Of tables whose keys are their sessions' own. -/
namespace Go.Proofs.YteabebmlclgakaaGreat
open Go.RowKit
set_option maxRecDepth 100000
set_option maxHeartbeats 4000000
section
variable {P : Program} {w0 w : World} {rs : List Res} {κ ν : Type} [DecidableEq κ] {enc : κ → Value} {val : ν → Value} {k e t : TypeId} {b : Nat} {l : List (κ × ν)} {ρ : Operand → Value} {o : Oper}
theorem gen_mapAt {g:Value→World→Prop} {m x:Operand} {ok:Bool} (hop:o.op=Op.lookup t m x ok) (h:Hp N0 w0 w rs) (hM0:MapAt enc val w0 b l) (hm:ρ m= .map (some b)) (KE:KEnc P k enc) (ht:P.underlying t=some (.map k e))
  {z:ν} (hz:zeroOf P e=some (val z)) (c:κ) (hx:ρ x=enc c) (hk:g (if ok then .tuple #[val ((l.lookup c).getD z), .bool (l.lookup c).isSome] else val ((l.lookup c).getD z)) w):Gen P ρ o w g:=by
 have hM:MapAt enc val w b l:=hM0.keep0 h.chg
 obtain ⟨h1,h2⟩:=hM.look KE ht (fun W=>run_zeroOf hz) c
 refine gen_v (w':=w) ?_ hk
 cases ok
 ·simp [execOp,hop,hm,hx,h2]
 ·simp [execOp,hop,hm,hx,h1]
end
structure TbAt (w:World) (b m:Nat) (room:Int) (l:List (UInt32×Sess)):Prop where
 cel:w.heap[b]? =some (.cells #[i64 room, .map (some m)] 171)
 map:MapAt u32 Sess.v w m l
theorem TbAt.keep0 {w w':World} {b m:Nat} {room:Int} {l:List (UInt32×Sess)} (h:TbAt w b m room l) (hc:Chg N0 w w'):TbAt w' b m room l:=⟨hc.heap h.cel fun hh=>hh,h.map.keep0 hc⟩
theorem TbAt.c1 {w:World} {b m:Nat} {room:Int} {l:List (UInt32×Sess)} (h:TbAt w b m room l):w.cell? ⟨b,1,none⟩=some (.map (some m)):=cell_of_heap h.cel rfl
theorem tbAt {w:World} {b m:Nat} {room:Int} {l:List (UInt32×Sess)} (h:(star (tabRs b m room l)).ok w):TbAt w b m room l:=
 have hp:=Hp.open h
 ⟨hp.cel_get (j:=0) rfl,mapR_ok.1 (hp.get (j:=1) rfl)⟩
section
variable {w0 : World} {b m : Nat} {room : Int} {l : List (UInt32 × Sess)}
end
theorem el_u32:ElT Tryz.prog 199 24 1 4:=elt_of (z:=u32 0) Tryz.underlying199 (by kernel_rfl) rfl (by omega)
theorem u32_oneL {l:List UInt32}:∀x∈l,∀u∈u32L x,u.oneCell'=true:=fun x _ u hu=>by simp [u32L] at hu;subst hu;rfl
def tstA (_:Sess):Bool:=true
theorem fm_step {l:List (UInt32×Sess)} {done:List Nat} {i:Nat} {pk:UInt32} {x:Sess} {q:Sess→Bool} (hi:l[i]? =some (pk,x)):((done++ [i]).filterMap fun i=>(l[i]?).bind fun p=>if q p.2=true then some p.1 else none)=(done.filterMap fun i=>(l[i]?).bind fun p=>if q p.2=true then some p.1 else none)++(if q x=true then [pk] else []):=by
 rw [List.filterMap_append]
 congr 1
 rw [List.filterMap_cons,hi]
 cases hq:q x<;>simp [hq]
theorem lst1_any (w0:World) (s:Sess):Calls Tryz.prog 136 #[s.v] w0 fun e w'=>e= .returned (.bool (tstA s))∧Chg N0 w0 w':=by
 have hp:=Hp.start (S:=N0) w0
 refine calls_x (args:= [_]) tabOk Tryz.func136 Tryz.ntmps136 Tryz.results136 rfl (Nat.le_of_ble_eq_true rfl) ?_
 ((conv=>whnf);repeat' (((with_reducible refine al_id ?_);(refine al_cel hp ?_;clear hp;intro bb w hp))<;>(conv=>whnf)))
 exact ps_val (v':= .bool true) rfl ⟨rfl,hp.chg⟩
theorem srtA_any {w0:World} {m:Nat} {l:List (UInt32×Sess)} (hM0:MapAt u32 Sess.v w0 m l) (hl:l.length≤1000):Calls Tryz.prog 135 #[.map (some m), .func (.func 136) #[] #[]] w0 fun e w'=>∃r:Sl UInt32,r.l.Perm ((l.filter fun p=>tstA p.2).map (·.1))∧r.l.Pairwise (fun x y=>x.toNat≤y.toNat)∧e= .returned r.v∧Made (rowR 24 1 u32L r) w0 w':=by
 have hp:=Hp.start (S:=N0) w0
 have us:=Tryz.underlying199
 have um:=Tryz.underlying169
 obtain ⟨es,clock,hM⟩:=hM0.getEs
 refine calls_x (args:= [_,_]) tabOk Tryz.func135 Tryz.ntmps135 Tryz.results135 rfl (Nat.le_of_ble_eq_true rfl) ?_
 ((conv=>whnf);repeat' (((with_reducible refine gen_id ?_);((refine gen_range rfl hp rfl um (hM.keep0 hp.chg) ?_);clear hp;intro ib w hp))<;>(conv=>whnf)))
 replace hp:=hp.nilRow 24 1 u32L
 refine lp_inv (α:=List Nat×Sl UInt32) (fun a=> [(1, .func (.func 136) #[] #[]),(5,a.2.v),(9,ptr ib)]) (fun a w=>a.1.Nodup∧(∀i∈a.1,i < l.length)∧a.2.l=(a.1.filterMap fun i=>(l[i]?).bind fun p=>if (tstA p.2)=true then some p.1 else none)∧Hp N0 w0 w [rowR 24 1 u32L a.2,itR ib m es clock a.1]) (fun a=>l.length - a.1.length) ([],Sl.nil) (by (repeat' (first|exact trivial|(refine ⟨rfl,?_⟩)))) ⟨.nil,by simp,rfl,hp⟩ ?_
 clear hp
 rintro ⟨done,s⟩ e0 w ⟨hn,hd,hs,hp⟩
 dsimp only at hn hd hs hp ⊢
 have hsl:s.l.length≤done.length:=by rw [hs];exact List.length_filterMap_le ..
 have hdl:done.length≤l.length:=by
  have h1:=List.Nodup.length_le_of_subset hn (l₂:=List.range l.length) fun i hi=>List.mem_range.2 (hd i hi)
  rwa [List.length_range] at h1
 ((conv=>whnf);repeat' ((first|((with_reducible refine br_id ?_);first|(with_reducible refine br_t ?_)|(with_reducible refine br_f ?_)|(with_reducible refine br_not ?_)|((with_reducible refine br_dec (fun hx=>?_) (fun hx=>?_))<;>(try (exfalso;first|omega|contradiction)))|((with_reducible refine br_eq (fun hx=>?_) (fun hx=>?_))<;>(try (exfalso;first|omega|contradiction)))|((with_reducible refine br_ne (fun hx=>?_) (fun hx=>?_))<;>(try (exfalso;first|omega|contradiction)))|((with_reducible refine br_s (fun hx=>?_) (fun hx=>?_))<;>(try (exfalso;first|omega|contradiction))))|((with_reducible refine ar_id ?_);first|(refine ar_i64 (by omega) ?_)|(refine ar_u32 (by omega) ?_)|(refine ar_u64 (by omega) ?_)|(refine ar_u8 (by omega) ?_))|((with_reducible refine cn_id ?_);first|(refine cn rfl ?_)|(refine cn ‹_› ?_)|(refine cn (by omega) ?_)|(refine cn (Chg.refl _ _) ?_))|((with_reducible refine ld_id ?_);first|(apply ld_hs hp;(focus repeat' constructor);exact rfl)|(refine ld_of ‹_› ?_))|((with_reducible refine ldn_id ?_);first|(apply lda_hs hp;(focus repeat' constructor);exact rfl)|(apply ldn_hs hp;(focus repeat' constructor);exact rfl;exact rfl))|((with_reducible refine al_id ?_);(refine al_cel hp ?_;clear hp;intro bb w hp))|((with_reducible refine st_id ?_);first|(apply sta_hs hp;(focus repeat' constructor);exact rfl;exact rfl;clear hp;intro w hp;(try dsimp only [List.set] at hp))|(apply st_hs hp;(focus repeat' constructor);exact rfl;exact rfl;clear hp;intro w hp;(try dsimp only [List.set] at hp)))|((with_reducible refine gen_id ?_);first|(apply gen_build;exact rfl;exact rfl)|(apply gen_len;exact rfl;exact rfl;assumption)|(apply gen_min;exact rfl;exact rfl;exact rfl)|(apply gen_max;exact rfl;exact rfl;exact rfl)|(apply gen_ix;exact rfl;exact rfl;exact rfl;exact rfl;omega)|(apply gen_ixa;exact rfl;exact rfl;exact rfl;exact rfl;omega))|((with_reducible refine dr_id ?_);first|(refine dr_auto tabOk (by kernel_rfl) (by decide+kernel) ?_;(try replace hp:=hp.drew))|(refine dr_autog tabOk (by kernel_rfl) (by decide+kernel) ?_;(try replace hp:=hp.drew))|(refine dr_autot tabOk (by kernel_rfl) (by decide+kernel) ?_;(try replace hp:=hp.drew)))|((with_reducible refine fk_id ?_);(refine fk_mk ?_ ?_))|((with_reducible refine rd_id ?_);first|(apply rd_len;exact rfl;exact rfl;assumption)|(apply rd_ix;exact rfl;exact rfl;exact rfl;exact rfl;omega)))<;>(conv=>whnf)))
 refine gen_next rfl hp 1 rfl rfl (hM.keep0 hp.chg) hd (fun hall=>?_) (fun i p w hi hni hp'=>?_)
 ·have hpe:=met_filter hn hd hall (fun p:UInt32×Sess=>tstA p.2) (fun p:UInt32×Sess=>p.1)
  rw [←hs] at hpe
  ((conv=>whnf);repeat' (((with_reducible refine br_id ?_);(with_reducible refine br_f ?_))<;>(conv=>whnf)))
  refine cl_eq (ssort_any (hp.get (j:=0) rfl) (by omega)) rfl rfl ?_
  rintro e w ⟨rfl,l',hl',hsrt,hmt⟩
  replace hp:=hp.via (j:=0) rfl hmt
  clear hmt
  dsimp only [List.set] at hp
  refine ⟨_,rfl,?_⟩
  have hll:l'.length=s.l.length:=hl'.length_eq
  ((conv=>whnf);repeat' ((first|((with_reducible refine br_id ?_);first|(with_reducible refine br_t ?_)|(with_reducible refine br_f ?_)|(with_reducible refine br_not ?_)|((with_reducible refine br_dec (fun hx=>?_) (fun hx=>?_))<;>(try (exfalso;first|omega|contradiction)))|((with_reducible refine br_eq (fun hx=>?_) (fun hx=>?_))<;>(try (exfalso;first|omega|contradiction)))|((with_reducible refine br_ne (fun hx=>?_) (fun hx=>?_))<;>(try (exfalso;first|omega|contradiction)))|((with_reducible refine br_s (fun hx=>?_) (fun hx=>?_))<;>(try (exfalso;first|omega|contradiction))))|((with_reducible refine ar_id ?_);first|(refine ar_i64 (by omega) ?_)|(refine ar_u32 (by omega) ?_)|(refine ar_u64 (by omega) ?_)|(refine ar_u8 (by omega) ?_))|((with_reducible refine cn_id ?_);first|(refine cn rfl ?_)|(refine cn ‹_› ?_)|(refine cn (by omega) ?_)|(refine cn (Chg.refl _ _) ?_))|((with_reducible refine ld_id ?_);first|(apply ld_hs hp;(focus repeat' constructor);exact rfl)|(refine ld_of ‹_› ?_))|((with_reducible refine ldn_id ?_);first|(apply lda_hs hp;(focus repeat' constructor);exact rfl)|(apply ldn_hs hp;(focus repeat' constructor);exact rfl;exact rfl))|((with_reducible refine al_id ?_);(refine al_cel hp ?_;clear hp;intro bb w hp))|((with_reducible refine st_id ?_);first|(apply sta_hs hp;(focus repeat' constructor);exact rfl;exact rfl;clear hp;intro w hp;(try dsimp only [List.set] at hp))|(apply st_hs hp;(focus repeat' constructor);exact rfl;exact rfl;clear hp;intro w hp;(try dsimp only [List.set] at hp)))|((with_reducible refine gen_id ?_);first|(apply gen_build;exact rfl;exact rfl)|(apply gen_len;exact rfl;exact rfl;assumption)|(apply gen_min;exact rfl;exact rfl;exact rfl)|(apply gen_max;exact rfl;exact rfl;exact rfl)|(apply gen_ix;exact rfl;exact rfl;exact rfl;exact rfl;omega)|(apply gen_ixa;exact rfl;exact rfl;exact rfl;exact rfl;omega))|((with_reducible refine dr_id ?_);first|(refine dr_auto tabOk (by kernel_rfl) (by decide+kernel) ?_;(try replace hp:=hp.drew))|(refine dr_autog tabOk (by kernel_rfl) (by decide+kernel) ?_;(try replace hp:=hp.drew))|(refine dr_autot tabOk (by kernel_rfl) (by decide+kernel) ?_;(try replace hp:=hp.drew)))|((with_reducible refine fk_id ?_);(refine fk_mk ?_ ?_))|((with_reducible refine rd_id ?_);first|(apply rd_len;exact rfl;exact rfl;assumption)|(apply rd_ix;exact rfl;exact rfl;exact rfl;exact rfl;omega)))<;>(conv=>whnf)))
  exact ps_val (v':= .slice s.A s.l.length s.c) rfl ⟨⟨s.A,s.c,l'⟩,hl'.trans hpe,hsrt,by rw [Sl.v,hll],hp.made1 (j:=0) rfl⟩
 ·clear hp
  have hp:=hp'
  clear hp'
  dsimp only [List.set] at hp
  have hil:=(List.getElem?_eq_some_iff.1 hi).1
  have hdl2:=met_len hn hd hil hni
  have hsn:=met_snoc hn hd hil hni
  obtain ⟨pk,x⟩:=p
  have hcl:=fun {w:World} (hc:Chg N0 w0 w)=>lst1_any w x
  have hfm:=fm_step (q:=tstA) (done:=done) hi
  rw [←hs] at hfm
  cases hq:tstA x with
  |true=>
   rw [hq] at hcl
   rw [hq,if_pos rfl] at hfm
   ((conv=>whnf);repeat' ((first|((with_reducible refine br_id ?_);(with_reducible refine br_t ?_))|((with_reducible refine cn_id ?_);(refine cn rfl ?_))|((with_reducible refine ldn_id ?_);(apply lda_hs hp;(focus repeat' constructor);exact rfl))|((with_reducible refine al_id ?_);(refine al_cel hp ?_;clear hp;intro bb w hp))|((with_reducible refine st_id ?_);(apply sta_hs hp;(focus repeat' constructor);exact rfl;exact rfl;clear hp;intro w hp;(try dsimp only [List.set] at hp)))|((with_reducible refine gen_id ?_);first|((refine gen_entry rfl hp 1 (i:=i) (done:=done) rfl rfl (hM.keep0 hp.chg) hi ?_))|((refine gen_bs rfl hp el_u32 u32L [pk] [u32 pk] rfl rfl rfl (fun _ _=>rfl) (by omega) ?_);clear hp;intro br w hp)|((refine gen_app (s:=s) rfl hp 2 rfl el_u32 rfl ⟨some ⟨br,0,none⟩,1, [pk]⟩ rfl (hp.row (j:=0) rfl) (fun _ _=>rfl) u32_oneL (by simp only [List.length_cons,List.length_nil];omega) (by simp only [List.length_cons,List.length_nil,maxLen];omega) ?_);clear hp;intro A2 c2 w hp;dsimp only [List.set] at hp))|((with_reducible refine cl_id ?_);((refine cl_eq ((hcl hp.chg)) rfl rfl ?_;rintro e w ⟨rfl,hcc⟩;replace hp:=hp.call0 hcc;refine ⟨_,rfl,?_⟩))))<;>(conv=>whnf)))
   all_goals exact lp_next (done++ [i],(⟨A2,c2,s.l++ [pk]⟩:Sl UInt32)) (by show l.length - (done++ [i]).length < l.length - done.length;rw [List.length_append];simp;omega) (by (repeat' (first|exact trivial|(refine ⟨rfl,?_⟩)))) ⟨hsn.1,hsn.2,hfm.symm,hp.pick (rs':= [_,_]) [2,3] (by decide) rfl⟩
  |false=>
   rw [hq] at hcl
   rw [hq,if_neg (by simp),List.append_nil] at hfm
   ((conv=>whnf);repeat' ((first|((with_reducible refine br_id ?_);first|(with_reducible refine br_t ?_)|(with_reducible refine br_f ?_))|((with_reducible refine cn_id ?_);(refine cn rfl ?_))|((with_reducible refine ldn_id ?_);(apply lda_hs hp;(focus repeat' constructor);exact rfl))|((with_reducible refine al_id ?_);(refine al_cel hp ?_;clear hp;intro bb w hp))|((with_reducible refine st_id ?_);(apply sta_hs hp;(focus repeat' constructor);exact rfl;exact rfl;clear hp;intro w hp;(try dsimp only [List.set] at hp)))|((with_reducible refine gen_id ?_);((refine gen_entry rfl hp 1 (i:=i) (done:=done) rfl rfl (hM.keep0 hp.chg) hi ?_)))|((with_reducible refine cl_id ?_);((refine cl_eq ((hcl hp.chg)) rfl rfl ?_;rintro e w ⟨rfl,hcc⟩;replace hp:=hp.call0 hcc;refine ⟨_,rfl,?_⟩))))<;>(conv=>whnf)))
   all_goals exact lp_next (done++ [i],s) (by show l.length - (done++ [i]).length < l.length - done.length;rw [List.length_append];simp;omega) (by (repeat' (first|exact trivial|(refine ⟨rfl,?_⟩)))) ⟨hsn.1,hsn.2,hfm.symm,hp.pick (rs':= [_,_]) [1,2] (by decide) rfl⟩
end Go.Proofs.YteabebmlclgakaaGreat
/- Tab23b: package session's table beside the document's list: End, Clone, List, Before. Of tables that hold what the list does. -/
namespace Go.Proofs.YteabebmlclgakaaGreat
open Go.RowKit
set_option maxRecDepth 100000
set_option maxHeartbeats 4000000
structure TbI (l:List (UInt32×Sess)) (W:List Sess):Prop where
 ord:W.Pairwise fun x y=>x.id.toNat < y.id.toNat
 per:(l.map (·.2)).Perm W
 key:∀p∈l,p.1=p.2.id
 used:∀s∈W,s.used.toNat≤s.quota.toNat
theorem byId_of {W:List Sess} (ho:W.Pairwise fun x y=>x.id.toNat < y.id.toNat) {s:Sess} (hs:s∈W):byId W s.id=some s:=by
 cases hb:byId W s.id with
 |none=>exact absurd rfl (byId_none hb s hs)
 |some t=>
  obtain ⟨h1,h2⟩:=byId_mem hb
  have hnd:W.Pairwise fun x y=>x.id≠y.id:=ho.imp fun h e=>by rw [e] at h;exact Nat.lt_irrefl _ h
  by_cases he:t=s
  ·rw [he]
  ·exfalso
   obtain ⟨i,hi,rfl⟩:=List.getElem_of_mem h1
   obtain ⟨j,hj,rfl⟩:=List.getElem_of_mem hs
   rcases Nat.lt_trichotomy i j with h3|h3|h3
   ·exact List.pairwise_iff_getElem.1 hnd i j hi hj h3 h2
   ·subst h3;exact he rfl
   ·exact List.pairwise_iff_getElem.1 hnd j i hj hi h3 h2.symm
theorem lk_mem {κ ν:Type} [DecidableEq κ] {k:κ} {v:ν}:∀{l:List (κ×ν)},l.lookup k=some v→(k,v)∈l
 | [],h=>by simp at h
 |p::l,h=>by
  rw [List.lookup_cons] at h
  split at h
  ·rename_i he
   have h1:k=p.1:=by simpa using he
   cases h
   rw [h1]
   exact List.mem_cons_self ..
  ·exact List.mem_cons_of_mem _ (lk_mem h)
theorem lk_none {κ ν:Type} [DecidableEq κ] {k:κ}:∀{l:List (κ×ν)},l.lookup k=none→∀p∈l,p.1≠k
 | [],_,p,hp=>by cases hp
 |q::l,h,p,hp=>by
  rw [List.lookup_cons] at h
  split at h
  ·cases h
  ·rename_i he
   rcases List.mem_cons.1 hp with rfl|hp
   ·intro e;simp [e] at he
   ·exact lk_none h p hp
section
variable {l : List (UInt32 × Sess)} {W : List Sess}
theorem TbI.len (h:TbI l W):l.length=W.length:=by have:=h.per.length_eq;rwa [List.length_map] at this
theorem TbI.look (h:TbI l W) (id:UInt32):l.lookup id=byId W id:=by
 cases hl:l.lookup id with
 |some s=>
  have h1:=lk_mem hl
  have h2:id=s.id:=h.key _ h1
  have h3:s∈W:=h.per.mem_iff.1 (List.mem_map_of_mem (f:=(·.2)) h1)
  rw [h2,byId_of h.ord h3]
 |none=>
  cases hb:byId W id with
  |none=>rfl
  |some s=>
   obtain ⟨h1,h2⟩:=byId_mem hb
   obtain ⟨p,hp,rfl⟩:=List.mem_map.1 (h.per.mem_iff.2 h1)
   exact absurd ((h.key p hp).trans h2) (lk_none hl p hp)
theorem TbI.picked (h:TbI l W) (q:Sess→Bool) {r:List UInt32} (hp:r.Perm ((l.filter fun p=>q p.2).map (·.1))) (hs:r.Pairwise fun x y=>x.toNat≤y.toNat):r=(W.filter q).map (·.id):=by
 have h1:((l.filter fun p=>q p.2).map (·.1)).Perm ((W.filter q).map (·.id)):=by
  have h2:(l.filter fun p=>q p.2).map (·.1)=((l.map (·.2)).filter q).map (·.id):=by
   rw [List.filter_map,List.map_map]
   exact List.map_congr_left fun p hp=>h.key p (List.mem_filter.1 hp).1
  rw [h2]
  exact (h.per.filter q).map _
 refine (hp.trans h1).eq_of_pairwise (fun a b _ _ h3 h4=>UInt32.toNat_inj.1 (Nat.le_antisymm h3 h4)) hs ?_
 rw [List.pairwise_map]
 exact (h.ord.filter _).imp fun h=>Nat.le_of_lt h
end
end Go.Proofs.YteabebmlclgakaaGreat
/- Tab23c: package session's table: End, List, Before, Clone of tables that hold what a list does. -/
namespace Go.Proofs.YteabebmlclgakaaGreat
open Go.RowKit
set_option maxRecDepth 100000
set_option maxHeartbeats 4000000
theorem gen_mapAtv {P:Program} {w0 w:World} {rs:List Res} {κ ν:Type} [DecidableEq κ] {enc:κ→Value} {val:ν→Value} {k e t:TypeId} {b:Nat} {l:List (κ×ν)} {ρ:Operand→Value} {o:Oper} {g:Value→World→Prop} {m x:Operand} {ok:Bool} (hop:o.op=Op.lookup t m x ok) (h:Hp N0 w0 w rs) (hM0:MapAt enc val w0 b l) (hm:ρ m= .map (some b)) (KE:KEnc P k enc) (ht:P.underlying t=some (.map k e))
  {z:ν} (hz:zeroOf P e=some (val z)) (c:κ) (hx:ρ x=enc c) (y:ν) (hy:(l.lookup c).getD z=y) (hk:g (if ok then .tuple #[val y, .bool (l.lookup c).isSome] else val y) w):Gen P ρ o w g:=by
 subst hy
 exact gen_mapAt hop h hM0 hm KE ht hz c hx hk
section
variable {w0 : World} {b m : Nat} {room : Int} {l : List (UInt32 × Sess)} {W : List Sess}
theorem listm_any (h:TbAt w0 b m room l) (hI:TbI l W) (hW:W.length≤1000):Calls Tryz.prog 81 #[ptr b] w0 fun e w'=>∃r:Sl Sess,r.l=W∧e= .returned r.v∧Made (seeR 4 Sess.c r) w0 w':=by
 have hp:=Hp.start (S:=N0) w0
 have um:=Tryz.underlying169
 have us:=Tryz.underlying27
 have us1:=Tryz.underlying199
 refine calls_x (args:= [_]) tabOk Tryz.func81 Tryz.ntmps81 Tryz.results81 rfl (Nat.le_of_ble_eq_true rfl) ?_
 ((conv=>whnf);repeat' ((first|((with_reducible refine br_id ?_);(with_reducible refine br_f ?_))|((with_reducible refine ld_id ?_);((refine ld_of (h.keep0 hp.chg).c1 ?_)))|((with_reducible refine cl_id ?_);((refine cl_eq ((none_no (h.keep0 hp.chg).cel)) rfl rfl ?_;rintro e w ⟨rfl,hcc⟩;replace hp:=hp.call0 hcc;refine ⟨_,rfl,?_⟩))))<;>(conv=>whnf)))
 refine cl_eq (srtA_any (h.keep0 hp.chg).map (by rw [hI.len];exact hW)) rfl rfl ?_
 rintro e w ⟨r,hr,hrs,rfl,hmd⟩
 replace hp:=hp.add hmd
 clear hmd
 refine ⟨_,rfl,?_⟩
 have hrl:r.l=W.map (·.id):=by
  rw [hI.picked tstA hr hrs]
  congr 1
  exact List.filter_eq_self.2 fun _ _=>rfl
 have hrn:r.l.length=W.length:=by rw [hrl,List.length_map]
 clear hr hrs
 replace hp:=hp.nilRow 56 4 Sess.c
 ((conv=>whnf);repeat' (((with_reducible refine gen_id ?_);(apply gen_len;exact rfl;exact rfl;assumption))<;>(conv=>whnf)))
 refine lp_inv (α:=Nat×Sl Sess) (fun a=> [(0,ptr b),(3,a.2.v),(12,r.v),(13,i64 r.l.length),(14,i64 a.1)]) (fun a w=>a.1≤W.length∧a.2.l=W.take a.1∧Hp N0 w0 w [rowR 56 4 Sess.c a.2,rowR 24 1 u32L r]) (fun a=>W.length - a.1) (0,Sl.nil) (by (repeat' (first|exact trivial|(refine ⟨rfl,?_⟩)))) ⟨by show 0≤_;omega,rfl,hp.pick (rs':= [_,_]) [0,1] (by decide) rfl⟩ ?_
 clear hp
 rintro ⟨i,s⟩ e0 w ⟨hi,hs,hp⟩
 dsimp only at hi hs hp ⊢
 have hsl:s.l.length=i:=by rw [hs,List.length_take];omega
 rcases Nat.lt_or_ge i W.length with hlt|hge
 ·obtain ⟨b1,o1,y,hA,hb1,hrow,hyy⟩:=(hp.row (j:=1) rfl).has (i:=i) (by omega)
  obtain ⟨x,hxx⟩:∃x,W[i]? =some x:=⟨_,List.getElem?_eq_getElem hlt⟩
  have hyx:y=x.id:=by
   rw [hrl,List.getElem?_map,hxx] at hyy
   exact (Option.some.inj hyy).symm
  subst hyx
  have hlk:(l.lookup x.id).getD Sess.z=x:=by rw [hI.look,byId_of hI.ord (List.mem_of_getElem? hxx)];rfl
  ((conv=>whnf);repeat' ((first|((with_reducible refine br_id ?_);((with_reducible refine br_dec (fun hx=>?_) (fun hx=>?_))<;>(try (exfalso;first|omega|contradiction))))|((with_reducible refine ar_id ?_);(refine ar_i64 (by omega) ?_))|((with_reducible refine ld_id ?_);first|((refine ld_own0 hp 1 rfl ‹_› _ rfl ‹_› (by rfl) ?_))|((refine ld_of (h.keep0 hp.chg).c1 ?_)))|((with_reducible refine gen_id ?_);first|((refine gen_ixs rfl rfl ‹_› rfl rfl (by omega) ?_))|((refine gen_mapAtv rfl hp h.map rfl u32K um (z:=Sess.z) rfl x.id rfl x hlk ?_))|((refine gen_bs rfl hp el_ses Sess.c [x] [x.v] rfl rfl rfl (fun _ _=>rfl) (by omega) ?_);clear hp;intro br w hp)|((refine gen_app (s:=s) rfl hp 1 rfl el_ses rfl ⟨some ⟨br,0,none⟩,1, [x]⟩ rfl (hp.row (j:=0) rfl) (fun _ _=>rfl) ses_one (by simp only [List.length_cons,List.length_nil];omega) (by simp only [List.length_cons,List.length_nil,maxLen];omega) ?_);clear hp;intro A2 c2 w hp;dsimp only [List.set] at hp)))<;>(conv=>whnf)))
  exact lp_next (i+1,(⟨A2,c2,s.l++ [x]⟩:Sl Sess)) (by show W.length - (i+1) < W.length - i;omega) (by (repeat' (first|exact trivial|(refine ⟨rfl,?_⟩)))) ⟨by show i+1≤_;omega,by show s.l++ [x]=_;rw [hs,List.take_add_one,hxx];rfl,hp.tail⟩
 ·rw [List.take_of_length_le (by omega)] at hs
  ((conv=>whnf);repeat' (((with_reducible refine br_id ?_);((with_reducible refine br_dec (fun hx=>?_) (fun hx=>?_))<;>(try (exfalso;first|omega|contradiction))))<;>(conv=>whnf)))
  exact ps_val (v':=s.v) rfl ⟨s,hs,rfl,(hp.made1 (j:=0) rfl).see⟩
end
end Go.Proofs.YteabebmlclgakaaGreat
/- Book6: package book: the state that a loaded book tells. Of states that are few. -/
namespace Go.Proofs.YteabebmlclgakaaGreat
open Go.RowKit
set_option maxRecDepth 100000
set_option maxHeartbeats 4000000
theorem cwinC_any {w0:World} {b:Nat} {C:Chn} (h:ChAt w0 b C):Calls Tryz.prog 80 #[ptr b] w0 fun e w'=>∃r:Sl Blk,r.l.map Blk.p=C.win.l.map Blk.p∧e= .returned r.v∧Made (star (winRs r)) w0 w':=by
 have hp:=Hp.start (S:=N0) w0
 have us:=Tryz.underlying26
 have hln:=h.len
 have hd:=h.dep
 refine calls_x (args:= [_]) tabOk Tryz.func80 Tryz.ntmps80 Tryz.results80 rfl (Nat.le_of_ble_eq_true rfl) ?_
 ((conv=>whnf);repeat' ((first|((with_reducible refine br_id ?_);(with_reducible refine br_f ?_))|((with_reducible refine ld_id ?_);((refine ld_of ((h.keep0 hp.chg).cell rfl) ?_)))|((with_reducible refine gen_id ?_);(apply gen_len;exact rfl;exact rfl;assumption))|((with_reducible refine cl_id ?_);((refine cl_eq ((cnone_any (h.keep0 hp.chg))) rfl rfl ?_;rintro e w ⟨rfl,hcc⟩;replace hp:=hp.call0 hcc;refine ⟨_,rfl,?_⟩))))<;>(conv=>whnf)))
 have hp0:Hp N0 w0 w (winRs Sl.nil):=hp.nilRow 54 65 Blk.c
 clear hp
 refine lp_inv (α:=Nat×Sl Blk) (fun a=> [(3,a.2.v),(11,C.win.v),(12,i64 C.win.l.length),(13,i64 a.1)]) (fun a w=>a.1≤C.win.l.length∧a.2.l.map Blk.p=(C.win.l.take a.1).map Blk.p∧Hp N0 w0 w (winRs a.2)) (fun a=>C.win.l.length - a.1) (0,Sl.nil) (by (repeat' (first|exact trivial|(refine ⟨rfl,?_⟩)))) ⟨by show 0≤_;omega,rfl,hp0⟩ ?_
 clear hp0
 rintro ⟨i,r⟩ e0 w ⟨hi,hr,hp⟩
 dsimp only at hi hr hp ⊢
 have hrl:r.l.length=i:=by
  have:=congrArg List.length hr
  rw [List.length_map,List.length_map,List.length_take] at this
  omega
 rcases Nat.lt_or_ge i C.win.l.length with hlt|hge
 ·obtain ⟨b1,o1,y,hA,hb1,hrow,hyy⟩:=h.win.row.has hlt
  have hym:=List.mem_of_getElem? hyy
  have hcp:=fun {w:World} (hc:Chg N0 w0 w)=>copy_any ((h.keep0 hc).win.tx y hym) (by have:=(h.nd y hym).2;omega)
  have hB:∀b,N0 b→w0.heap.size≤b:=fun _ hh=>hh.elim
  ((conv=>whnf);repeat' ((first|((with_reducible refine br_id ?_);((with_reducible refine br_dec (fun hx=>?_) (fun hx=>?_))<;>(try (exfalso;first|omega|contradiction))))|((with_reducible refine ar_id ?_);(refine ar_i64 (by omega) ?_))|((with_reducible refine cn_id ?_);(refine cn rfl ?_))|((with_reducible refine ldn_id ?_);first|((refine ldn_rowx hp hB ‹_› ‹_› _ rfl ‹_› rfl ?_))|(apply lda_hs hp;(focus repeat' constructor);exact rfl))|((with_reducible refine al_id ?_);(refine al_cel hp ?_;clear hp;intro bb w hp))|((with_reducible refine st_id ?_);(apply sta_hs hp;(focus repeat' constructor);exact rfl;exact rfl;clear hp;intro w hp;(try dsimp only [List.set] at hp)))|((with_reducible refine gen_id ?_);first|((refine gen_ixs rfl rfl ‹_› rfl rfl (by omega) ?_))|((refine gen_bs rfl hp el_blkS Blk.c [{y with tx:=s}] [Blk.v {y with tx:=s}] rfl rfl rfl (fun _ hh=>by simp at hh;subst hh;rfl) (by omega) ?_);clear hp;intro br w hp)|((refine gen_app (s:=r) rfl hp 3 rfl el_blkS rfl ⟨some ⟨br,0,none⟩,1, [{y with tx:=s}]⟩ rfl (hp.row (j:=0) rfl) (fun _ _=>rfl) blk_oneS (by simp only [List.length_cons,List.length_nil];omega) (by simp only [maxLen,List.length_cons,List.length_nil];omega) ?_);clear hp;intro A2 c2 w hp;dsimp only [List.set] at hp))|((with_reducible refine cl_id ?_);((refine cl_eq (hcp hp.chg) rfl rfl ?_;rintro e w ⟨s,hs,rfl,hmd⟩;replace hp:=hp.add hmd;clear hmd;refine ⟨_,rfl,?_⟩))))<;>(conv=>whnf)))
  refine lp_next (i+1,⟨A2,c2,r.l++ [{y with tx:=s}]⟩) (by show C.win.l.length - (i+1) < C.win.l.length - i;omega) (by (repeat' (first|exact trivial|(refine ⟨rfl,?_⟩)))) ⟨by show i+1≤_;omega,?_,?_⟩
  ·show (r.l++ [_]).map Blk.p=_
   rw [List.take_add_one,hyy,List.map_append,List.map_append,hr]
   simp [Blk.p,hs]
  ·have h1:=hp.tail.sub (rs':=_::_::r.l.map btxR) (List.Sublist.cons_cons _ (List.Sublist.cons _ (List.Sublist.refl _)))
   have h2:=h1.perm (List.perm_append_singleton _ _).symm
   show Hp N0 w0 w (_::(r.l++ [_]).map btxR)
   rw [List.map_append]
   exact h2
 ·rw [List.take_of_length_le (by omega)] at hr
  ((conv=>whnf);repeat' (((with_reducible refine br_id ?_);((with_reducible refine br_dec (fun hx=>?_) (fun hx=>?_))<;>(try (exfalso;first|omega|contradiction))))<;>(conv=>whnf)))
  exact ps_of ⟨r,hr,rfl,hp.made (.refl _)⟩
abbrev tolRs (x:Sta):List Res:= [star (winRs x.win),seeR 4 Sess.c x.ses,star (blobsR x.blobs),star (jobRs x.jobs)]
theorem tolRs_at {w:World} {x:Sta} (h:(star (tolRs x)).ok w):StaAt w.heap.size w x:=by
 have hp:=Hp.open h
 have h1:=winRs_at (hp.get (j:=0) rfl)
 have h3:BlobsAt w.heap.size w x.blobs:=by
  have hq:=Hp.open (hp.get (j:=2) rfl)
  exact ⟨hq.row (j:=0) rfl,fun b hb=>rowR_at (e:=5) (hq.ok (dataR b) (List.mem_cons_of_mem _ (List.mem_map_of_mem hb)))⟩
 have h4:=jobRs_at (hp.get (j:=3) rfl)
 exact ⟨h1.1,h1.2,hp.see (j:=1) rfl,h3,h4.1,h4.2⟩
theorem bstate_any {w0:World} {bk m ms:Nat} {X:Bk} {C:Chn} {room:Int} {tl:List (UInt32×Sess)} {WS:List Sess} {g:Shf} {WB:List BlP} {ord:Sl Key} {l:List (Key×EntB)} (h:w0.heap[bk]? =some (.cells X.c.toArray 121)) (hc:ChAt w0 X.bc C) (ht:TbAt w0 X.bs ms room tl) (htI:TbI tl WS) (hWS:WS.length≤1000) (hs:ShAt w0 X.bh g) (hsI:ShI g WB)
  (hj:JtAt w0 X.bj m ord l) (hI:JtI ord.l l) (hmany:l.length≤100000):Calls Tryz.prog 24 #[ptr bk] w0 fun e w'=>∃r:Sta,r.p=⟨X.cfg,C.ht,X.halt,X.next,C.win.l.map Blk.p,WS,WB,l.map (fun p=>p.2.job.p)⟩∧e= .returned r.v∧Made (star (tolRs r)) w0 w':=by
 have hp:=Hp.start (S:=N0) w0
 refine calls_x (args:= [_]) tabOk Tryz.func24 Tryz.ntmps24 Tryz.results24 rfl (Nat.le_of_ble_eq_true rfl) ?_
 ((conv=>whnf);repeat' ((first|((with_reducible refine br_id ?_);(with_reducible refine br_f ?_))|((with_reducible refine al_id ?_);(refine al_cel hp ?_;clear hp;intro bb w hp))|((with_reducible refine cl_id ?_);((refine cl_eq ((babsent_any (hp.chg.heap0 h))) rfl rfl ?_;rintro e w ⟨rfl,hcc⟩;replace hp:=hp.call0 hcc;refine ⟨_,rfl,?_⟩))))<;>(conv=>whnf)))
 refine dr_autos [] 1000 tabOk (by kernel_rfl) (by decide+kernel) ?_
 replace hp:=hp.drew
 ((conv=>whnf);repeat' ((first|((with_reducible refine cn_id ?_);first|(refine cn rfl ?_)|(refine cn ‹_› ?_))|((with_reducible refine ld_id ?_);((refine ld_of (cell_of_heap (hp.chg.heap0 h) rfl) ?_)))|((with_reducible refine ldn_id ?_);first|((refine ldn_pre (cs:=X.c) (hp.chg.heap0 h) rfl (vs:=X.cfg.c) rfl rfl ?_))|(apply lda_hs hp;(focus repeat' constructor);exact rfl))|((with_reducible refine st_id ?_);(apply sta_hs hp;(focus repeat' constructor);exact rfl;exact rfl;clear hp;intro w hp;(try dsimp only [List.set] at hp)))|((with_reducible refine gen_id ?_);(apply gen_build;exact rfl;exact rfl))|((with_reducible refine cl_id ?_);first|((refine cl_eq ((bheight_any (hp.chg.heap0 h) (hc.keep0 hp.chg))) rfl rfl ?_;rintro e w ⟨rfl,hcc⟩;replace hp:=hp.call0 hcc;refine ⟨_,rfl,?_⟩))|((refine cl_eq (cwinC_any (hc.keep0 hp.chg)) rfl rfl ?_;rintro e w ⟨rw_,hrw,rfl,hmw⟩;replace hp:=hp.add hmw;replace hmw:=hmw.chg;refine ⟨_,rfl,?_⟩))|((refine cl_eq (listm_any (ht.keep0 hp.chg) htI hWS) rfl rfl ?_;rintro e w ⟨rs_,hrs,rfl,hms⟩;replace hp:=hp.add hms;replace hms:=hms.chg;refine ⟨_,rfl,?_⟩))|((refine cl_eq (shlist_any (hs.keep0 hp.chg) hsI) rfl rfl ?_;rintro e w ⟨rb_,hrb,rfl,hmb⟩;replace hp:=hp.add hmb;replace hmb:=hmb.chg;refine ⟨_,rfl,?_⟩))|((refine cl_eq (jlist_any (hj.keep0 hp.chg) hI hmany) rfl rfl ?_;rintro e w ⟨rj_,hrj,rfl,hmj⟩;replace hp:=hp.add hmj;replace hmj:=hmj.chg;refine ⟨_,rfl,?_⟩))))<;>(conv=>whnf)))
 all_goals
  refine ps_val (v':=Sta.v ⟨X.cfg,C.ht,X.halt,X.next,rw_,rs_,rb_,rj_⟩) rfl ⟨⟨X.cfg,C.ht,X.halt,X.next,rw_,rs_,rb_,rj_⟩,?_,rfl,(hp.pick (rs':=tolRs ⟨X.cfg,C.ht,X.halt,X.next,rw_,rs_,rb_,rj_⟩) [3,2,1,0] (by decide) rfl).made (.refl _)⟩
  show StaP.mk _ _ _ _ _ _ _ _=_
  dsimp only
  rw [hrw,hrs,hrb,hrj]
end Go.Proofs.YteabebmlclgakaaGreat
/- Respond: tier.At, respond.Due, and the document's answers. -/
namespace Go.Proofs.YteabebmlclgakaaGreat
open Go.RowKit
set_option maxRecDepth 100000
set_option maxHeartbeats 2000000
theorem few_tx {p:Payload} (h:fewP p=true) {t:Tier} (ht:t∈p.l):t.tx.l.length≤200:=(fewP_at h).1 t ht
theorem u8L_one {l:List UInt8}:∀x∈l,∀u∈u8L x,u.oneCell'=true:=fun x _ u hu=>by
 simp [u8L] at hu
 subst hu
 rfl
def tierAt (breach height:Nat) (step:Int) (many:Nat):Nat:=if height≤breach∨many < 1 then 0 else min ((height - breach) / (max step 1).toNat) (many - 1)
theorem at_any (w0:World) (b h:UInt32) (step:Int) (hs: -9223372036854775808≤step∧step≤9223372036854775807) (many:Nat) (hm:many≤9223372036854775807):
  Calls Tryz.prog 102 #[u32 b,u32 h,i64 step,errno many] w0 fun e w'=>e= .returned (errno (tierAt b.toNat h.toNat step many))∧Chg N0 w0 w':=by
 have hp:=Hp.start (S:=N0) w0
 have hb:b.toNat < 4294967296:=b.toNat_lt
 have hh:h.toNat < 4294967296:=h.toNat_lt
 have hz:h.toNat≤b.toNat∨many < 1→tierAt b.toNat h.toNat step many=0:=fun hc=>by unfold tierAt;rw [if_pos hc]
 have hq:b.toNat < h.toNat→IntKind.u64.wrap ((h.toNat - b.toNat:Int).tdiv (max step 1))=(((h.toNat - b.toNat) / (max step 1).toNat:Nat):Int):=fun h1=>by
  have e1:(h.toNat - b.toNat:Int)=((h.toNat - b.toNat:Nat):Int):=by omega
  obtain ⟨d,hd⟩:∃d:Nat,max step 1=d:=⟨(max step 1).toNat,by omega⟩
  rw [e1,hd,←Int.ofNat_tdiv,Int.toNat_natCast]
  have:=Nat.div_le_self (h.toNat - b.toNat) d
  generalize (h.toNat - b.toNat) / d=q at this ⊢
  exact IntWalk.u64_in _ (by omega)
 have hr:b.toNat < h.toNat→1≤many→tierAt b.toNat h.toNat step many=min ((h.toNat - b.toNat) / (max step 1).toNat) (many - 1):=fun h1 h2=>by unfold tierAt;rw [if_neg (by omega)]
 have hle:=Nat.div_le_self (h.toNat - b.toNat) (max step 1).toNat
 refine calls_x (args:= [_,_,_,_]) tabOk Tryz.func102 Tryz.ntmps102 Tryz.results102 rfl (Nat.le_of_ble_eq_true rfl) ?_
 ((conv=>whnf);repeat' ((first|((with_reducible refine br_id ?_);first|(with_reducible refine br_t ?_)|(with_reducible refine br_f ?_)|((with_reducible refine br_dec (fun hx=>?_) (fun hx=>?_))<;>(try (exfalso;first|omega|contradiction))))|((with_reducible refine ar_id ?_);first|((refine ar_is _ (hq (by omega)) ?_))|(refine ar_i64 (by omega) ?_)|(refine ar_u32 (by omega) ?_)|(refine ar_u64 (by omega) ?_))|((with_reducible refine cn_id ?_);(refine cn (by omega) ?_))|((with_reducible refine gen_id ?_);first|(apply gen_min;exact rfl;exact rfl;exact rfl)|(apply gen_max;exact rfl;exact rfl;exact rfl)))<;>(conv=>whnf)))
 ·rw [hz (by omega)]
  exact ps_val (v':=errno 0) rfl ⟨rfl,hp.chg⟩
 ·rw [hz (by omega)]
  exact ps_val (v':=errno 0) rfl ⟨rfl,hp.chg⟩
 ·rw [hr (by omega) (by omega)]
  generalize (h.toNat - b.toNat) / (max step 1).toNat=q at hle ⊢
  refine ps_val (v':= .int .i64 (min (q:Int) (many - 1))) rfl ⟨?_,hp.chg⟩
  rw [show min (q:Int) (many - 1)=((min q (many - 1):Nat):Int) by omega]
theorem tier_exit {b h many n d:Nat} {step gone:Int} (hd:max step 1=d) (h1:1≤many) (hn:n≤many - 1) (hp:n=0∨n*d+b≤h) (hg:gone=(h:Int) - b - ((n*d:Nat):Int)) (hx:many - 1≤n∨gone < d):tierAt b h step many=n:=by
 have hd1:1≤d:=by omega
 unfold tierAt
 rw [hd,Int.toNat_natCast]
 by_cases hle:h≤b
 ·rw [if_pos (.inl hle)]
  rcases hp with hp|hp
  ·exact hp.symm
  ·have:n*d=0:=by omega
   rcases Nat.mul_eq_zero.1 this with h2|h2<;>omega
 ·rw [if_neg (by omega)]
  have h3:n≤(h - b) / d:=by
   rw [Nat.le_div_iff_mul_le hd1]
   rcases hp with hp|hp
   ·rw [hp,Nat.zero_mul];omega
   ·omega
  rcases hx with hx|hx
  ·omega
  ·have h4:(h - b) / d < n+1:=by
    rw [Nat.div_lt_iff_lt_mul hd1,Nat.succ_mul]
    omega
   omega
theorem atRef_any (w0:World) (b h:UInt32) (step:Int) (hs: -9223372036854775808≤step∧step≤9223372036854775807) (many:Nat) (hm:many≤9223372036854775807):
  Calls Tryz.prog 25 #[u32 b,u32 h,i64 step,errno many] w0 fun e w'=>e= .returned (errno (tierAt b.toNat h.toNat step many))∧Chg N0 w0 w':=by
 have hp:=Hp.start (S:=N0) w0
 have hb:b.toNat < 4294967296:=b.toNat_lt
 have hh:h.toNat < 4294967296:=h.toNat_lt
 obtain ⟨d,hd⟩:∃d:Nat,max step 1=d:=⟨(max step 1).toNat,by omega⟩
 rcases Int.lt_or_le step 1 with hs1|hs1
 ·obtain rfl:d=1:=by omega
  refine calls_x (args:= [_,_,_,_]) tabOk Tryz.func25 Tryz.ntmps25 Tryz.results25 rfl (Nat.le_of_ble_eq_true rfl) ?_
  ((conv=>whnf);repeat' ((first|((with_reducible refine br_id ?_);((with_reducible refine br_dec (fun hx=>?_) (fun hx=>?_))<;>(try (exfalso;first|omega|contradiction))))|((with_reducible refine ar_id ?_);(refine ar_i64 (by omega) ?_)))<;>(conv=>whnf)))
  ·have:tierAt b.toNat h.toNat step many=0:=by unfold tierAt;rw [if_pos (by omega)]
   rw [this]
   exact ps_val (v':=errno 0) rfl ⟨rfl,hp.chg⟩
  refine lp_inv (α:=Nat×Int) (fun a=> [(2,errno 1),(3,errno many),(9,errno a.1),(10,i64 a.2)]) (fun a w=>a.1≤many - 1∧(a.1=0∨a.1*1+b.toNat≤h.toNat)∧a.2=(h.toNat:Int) - b.toNat - ((a.1*1:Nat):Int)∧Chg N0 w0 w) (fun a=>many - a.1) (0,(h.toNat:Int) - b.toNat) (by (repeat' (first|exact trivial|(refine ⟨rfl,?_⟩)))) ⟨by omega, .inl rfl,by simp,hp.chg⟩ ?_
  clear hp
  rintro ⟨n,gone⟩ e0 w ⟨hn,hpd,hg,hc⟩
  dsimp only at hn hpd hg ⊢
  have hp:=(Hp.start (S:=N0) w0).call0 hc
  have hmul:=Nat.succ_mul n 1
  have hpos:n≤n*1:=Nat.le_mul_of_pos_right n (by omega)
  ((conv=>whnf);repeat' ((first|((with_reducible refine br_id ?_);first|(with_reducible refine br_t ?_)|(with_reducible refine br_f ?_)|((with_reducible refine br_dec (fun hx=>?_) (fun hx=>?_))<;>(try (exfalso;first|omega|contradiction))))|((with_reducible refine ar_id ?_);(refine ar_i64 (by omega) ?_)))<;>(conv=>whnf)))
  ·refine lp_next (n+1,gone - 1) ?_ (by (repeat' (first|exact trivial|(refine ⟨rfl,?_⟩)))) ⟨?_, .inr ?_,?_,hp.chg⟩
   ·show many - (n+1) < many - n;omega
   ·show n+1≤many - 1;omega
   ·show (n+1)*1+b.toNat≤h.toNat
    rw [Nat.succ_mul]
    omega
   ·show gone - 1=_ - ((((n+1)*1:Nat)):Int)
    rw [Nat.succ_mul,hg]
    omega
  ·rw [tier_exit (d:=1) hd (by omega) hn hpd hg (.inr (by omega))]
   exact ps_val (v':=errno n) rfl ⟨rfl,hp.chg⟩
  ·rw [tier_exit (d:=1) hd (by omega) hn hpd hg (.inl (by omega))]
   exact ps_val (v':=errno n) rfl ⟨rfl,hp.chg⟩
 ·obtain rfl:step=d:=by omega
  refine calls_x (args:= [_,_,_,_]) tabOk Tryz.func25 Tryz.ntmps25 Tryz.results25 rfl (Nat.le_of_ble_eq_true rfl) ?_
  ((conv=>whnf);repeat' ((first|((with_reducible refine br_id ?_);((with_reducible refine br_dec (fun hx=>?_) (fun hx=>?_))<;>(try (exfalso;first|omega|contradiction))))|((with_reducible refine ar_id ?_);(refine ar_i64 (by omega) ?_)))<;>(conv=>whnf)))
  ·have:tierAt b.toNat h.toNat (d:Int) many=0:=by unfold tierAt;rw [if_pos (by omega)]
   rw [this]
   exact ps_val (v':=errno 0) rfl ⟨rfl,hp.chg⟩
  refine lp_inv (α:=Nat×Int) (fun a=> [(2,errno d),(3,errno many),(9,errno a.1),(10,i64 a.2)]) (fun a w=>a.1≤many - 1∧(a.1=0∨a.1*d+b.toNat≤h.toNat)∧a.2=(h.toNat:Int) - b.toNat - ((a.1*d:Nat):Int)∧Chg N0 w0 w) (fun a=>many - a.1) (0,(h.toNat:Int) - b.toNat) (by (repeat' (first|exact trivial|(refine ⟨rfl,?_⟩)))) ⟨by omega, .inl rfl,by simp,hp.chg⟩ ?_
  clear hp
  rintro ⟨n,gone⟩ e0 w ⟨hn,hpd,hg,hc⟩
  dsimp only at hn hpd hg ⊢
  have hp:=(Hp.start (S:=N0) w0).call0 hc
  have hmul:=Nat.succ_mul n d
  have hpos:n≤n*d:=Nat.le_mul_of_pos_right n (by omega)
  ((conv=>whnf);repeat' ((first|((with_reducible refine br_id ?_);first|(with_reducible refine br_t ?_)|(with_reducible refine br_f ?_)|((with_reducible refine br_dec (fun hx=>?_) (fun hx=>?_))<;>(try (exfalso;first|omega|contradiction))))|((with_reducible refine ar_id ?_);(refine ar_i64 (by omega) ?_)))<;>(conv=>whnf)))
  ·refine lp_next (n+1,gone - d) ?_ (by (repeat' (first|exact trivial|(refine ⟨rfl,?_⟩)))) ⟨?_, .inr ?_,?_,hp.chg⟩
   ·show many - (n+1) < many - n;omega
   ·show n+1≤many - 1;omega
   ·show (n+1)*d+b.toNat≤h.toNat
    rw [Nat.succ_mul]
    omega
   ·show gone - d=_ - ((((n+1)*d:Nat)):Int)
    rw [Nat.succ_mul,hg]
    omega
  ·rw [tier_exit (d:=d) hd (by omega) hn hpd hg (.inr (by omega))]
   exact ps_val (v':=errno n) rfl ⟨rfl,hp.chg⟩
  ·rw [tier_exit (d:=d) hd (by omega) hn hpd hg (.inl (by omega))]
   exact ps_val (v':=errno n) rfl ⟨rfl,hp.chg⟩
theorem tierAt_lt {b h many:Nat} {step:Int} (h1:1≤many):tierAt b h step many < many:=by
 unfold tierAt
 split
 ·omega
 ·have:=Nat.min_le_right ((h - b) / (max step 1).toNat) (many - 1)
  omega
def dueN (j:Job) (height:UInt32) (step:Int):Option Nat:=
 if j.mined.toNat≠0∨j.pay.l.length=0∨(tierAt j.height.toNat height.toNat step j.pay.l.length:Int)=j.live then none else some (tierAt j.height.toNat height.toNat step j.pay.l.length)
def DuePost (j:Job) (height:UInt32) (step:Int) (w0:World) (e:Ending) (w':World):Prop:=
 (dueN j height step=none∧e= .returned (.tuple #[Sub.z.v, .bool false])∧Chg N0 w0 w')∨
 ∃n t s,dueN j height step=some n∧j.pay.l[n]? =some t∧s.l=t.tx.l∧e= .returned (.tuple #[(Sub.mk j.key j.breach height n s).v, .bool true])∧Made (rowR 5 1 u8L s) w0 w'
theorem due_any {B:Nat} {w0:World} {j:Job} (h:PayAt B w0 j.pay) (hf:fewP j.pay=true) (height:UInt32) (step:Int) (hs: -9223372036854775808≤step∧step≤9223372036854775807):
  Calls Tryz.prog 58 #[j.v,u32 height,i64 step] w0 (DuePost j height step w0):=by
 have hp:=Hp.start (S:=N0) w0
 have hB:∀b,N0 b→B≤b:=fun _ hh=>hh.elim
 have u1:=Tryz.underlying45
 have u2:=Tryz.underlying38
 have hmax:j.pay.l.length≤9223372036854775807:=by have:=h.row.le;have:=h.row.max;simp only [maxLen] at this;omega
 refine calls_x (args:= [_,_,_]) tabOk Tryz.func58 Tryz.ntmps58 Tryz.results58 rfl (Nat.le_of_ble_eq_true rfl) ?_
 ((conv=>whnf);repeat' ((first|((with_reducible refine ld_id ?_);(apply ld_hs hp;(focus repeat' constructor);exact rfl))|((with_reducible refine al_id ?_);(refine al_cel hp ?_;clear hp;intro bb w hp))|((with_reducible refine gen_id ?_);(apply gen_len;exact rfl;exact rfl;assumption)))<;>(conv=>whnf)))
 refine cl_of (at_any _ j.height height step hs j.pay.l.length hmax) ?_
 rintro e w ⟨rfl,hc⟩
 replace hp:=hp.call0 hc
 refine ⟨_,rfl,?_⟩
 obtain ⟨n,hn⟩:∃n,tierAt j.height.toNat height.toNat step j.pay.l.length=n:=⟨_,rfl⟩
 rw [hn]
 ((conv=>whnf);repeat' ((first|((with_reducible refine br_id ?_);first|(with_reducible refine br_t ?_)|(with_reducible refine br_f ?_)|((with_reducible refine br_eq (fun hx=>?_) (fun hx=>?_))<;>(try (exfalso;first|omega|contradiction)))|((with_reducible refine br_ne (fun hx=>?_) (fun hx=>?_))<;>(try (exfalso;first|omega|contradiction))))|((with_reducible refine cn_id ?_);(refine cn rfl ?_))|((with_reducible refine ld_id ?_);(apply ld_hs hp;(focus repeat' constructor);exact rfl))|((with_reducible refine ldn_id ?_);first|(apply lda_hs hp;(focus repeat' constructor);exact rfl)|(apply ldn_hs hp;(focus repeat' constructor);exact rfl;exact rfl))|((with_reducible refine st_id ?_);(apply sta_hs hp;(focus repeat' constructor);exact rfl;exact rfl;clear hp;intro w hp;(try dsimp only [List.set] at hp)))|((with_reducible refine gen_id ?_);(apply gen_build;exact rfl;exact rfl))|((with_reducible refine dr_id ?_);(refine dr_autog tabOk (by kernel_rfl) (by decide+kernel) ?_;(try replace hp:=hp.drew))))<;>(conv=>whnf)))
 ·exact ps_val (v':= .tuple #[Sub.z.v, .bool false]) (by kernel_rfl) (.inl ⟨by unfold dueN;rw [if_pos (by omega)],rfl,hp.chg⟩)
 ·exact ps_val (v':= .tuple #[Sub.z.v, .bool false]) (by kernel_rfl) (.inl ⟨by unfold dueN;rw [if_pos (by omega)],rfl,hp.chg⟩)
 ·exact ps_val (v':= .tuple #[Sub.z.v, .bool false]) (by kernel_rfl) (.inl ⟨by unfold dueN;rw [if_pos (by omega)],rfl,hp.chg⟩)
 have hlt:n < j.pay.l.length:=by rw [←hn];exact tierAt_lt (by omega)
 obtain ⟨b,o,x,hA,hb,hrow,hxx⟩:=h.row.has hlt
 have htx:=h.tx x (List.mem_of_getElem? hxx)
 have hfew:=few_tx hf (List.mem_of_getElem? hxx)
 ((conv=>whnf);repeat' ((first|((with_reducible refine cn_id ?_);first|(refine cn rfl ?_)|(refine cn ‹_› ?_))|((with_reducible refine ld_id ?_);((refine ld_row hp hB ‹_› ‹_› _ _ rfl ‹_› (by rfl) ?_)))|((with_reducible refine ldn_id ?_);(apply lda_hs hp;(focus repeat' constructor);exact rfl))|((with_reducible refine st_id ?_);(apply sta_hs hp;(focus repeat' constructor);exact rfl;exact rfl;clear hp;intro w hp;(try dsimp only [List.set] at hp)))|((with_reducible refine gen_id ?_);first|((refine gen_app0 rfl hp el_u8 rfl x.tx rfl (htx.keep hp.chg hB) (fun _ _=>rfl) u8L_one (by omega) (by simp only [maxLen];omega) ?_);clear hp;intro A' c' w hg hp)|((refine gen_build (t:=69) (out:=(Sub.mk j.key j.breach height n ⟨A',c',x.tx.l⟩).c) rfl (by kernel_rfl) ?_)))|((with_reducible refine rd_id ?_);((refine rd_ixs rfl rfl ‹_› rfl rfl (by omega) ?_))))<;>(conv=>whnf)))
 refine ps_val (v':= .tuple #[(Sub.mk j.key j.breach height n ⟨A',c',x.tx.l⟩).v, .bool true]) rfl (.inr ⟨n,x,⟨A',c',x.tx.l⟩,?_,hxx,rfl,rfl,hp.made1 (j:=0) rfl⟩)
 unfold dueN
 rw [if_neg (by omega),hn]
end Go.Proofs.YteabebmlclgakaaGreat
