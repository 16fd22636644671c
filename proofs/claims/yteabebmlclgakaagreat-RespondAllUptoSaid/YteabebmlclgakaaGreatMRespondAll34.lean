/- MRespondAll34: Due, SubP, SendP, Rf2. -/
import Derived.Test.YteabebmlclgakaaGreatMRespondAll33
import Derived.Test.YteabebmlclgakaaGreatMRespondAll8
import Derived.Test.YteabebmlclgakaaGreatMRespondAll16
import Derived.Test.YteabebmlclgakaaGreatMRespondAll9
import Derived.Test.YteabebmlclgakaaGreatMRespondAll25
set_option linter.unusedSimpArgs false
set_option linter.unusedVariables false
/- Due: the document's Due, whether two submissions are the same, and a job that is due. -/
namespace Go.Proofs.YteabebmlclgakaaGreat
open Go.RowKit
set_option maxRecDepth 100000
set_option maxHeartbeats 2000000
theorem dueRef_any {B:Nat} {w0:World} {j:Job} (h:PayAt B w0 j.pay) (hf:fewP j.pay=true) (height:UInt32) (step:Int) (hs: -9223372036854775808≤step∧step≤9223372036854775807):
  Calls Tryz.prog 77 #[j.v,u32 height,i64 step] w0 (DuePost j height step w0):=by
 have hp:=Hp.start (S:=N0) w0
 have hB:∀b,N0 b→B≤b:=fun _ hh=>hh.elim
 have u1:=Tryz.underlying45
 have u2:=Tryz.underlying38
 have hmax:j.pay.l.length≤9223372036854775807:=by have:=h.row.le;have:=h.row.max;simp only [maxLen] at this;omega
 refine calls_x (args:= [_,_,_]) tabOk Tryz.func77 Tryz.ntmps77 Tryz.results77 rfl (Nat.le_of_ble_eq_true rfl) ?_
 ((conv=>whnf);repeat' ((first|((with_reducible refine br_id ?_);first|(with_reducible refine br_t ?_)|(with_reducible refine br_f ?_)|((with_reducible refine br_eq (fun hx=>?_) (fun hx=>?_))<;>(try (exfalso;first|omega|contradiction)))|((with_reducible refine br_ne (fun hx=>?_) (fun hx=>?_))<;>(try (exfalso;first|omega|contradiction))))|((with_reducible refine cn_id ?_);(refine cn rfl ?_))|((with_reducible refine ld_id ?_);(apply ld_hs hp;(focus repeat' constructor);exact rfl))|((with_reducible refine ldn_id ?_);(apply lda_hs hp;(focus repeat' constructor);exact rfl))|((with_reducible refine al_id ?_);(refine al_cel hp ?_;clear hp;intro bb w hp))|((with_reducible refine st_id ?_);(apply sta_hs hp;(focus repeat' constructor);exact rfl;exact rfl;clear hp;intro w hp;(try dsimp only [List.set] at hp)))|((with_reducible refine gen_id ?_);first|(apply gen_build;exact rfl;exact rfl)|(apply gen_len;exact rfl;exact rfl;assumption)))<;>(conv=>whnf)))
 ·exact ps_val (v':= .tuple #[Sub.z.v, .bool false]) (by kernel_rfl) (.inl ⟨by unfold dueN;rw [if_pos (by omega)],rfl,hp.chg⟩)
 ·exact ps_val (v':= .tuple #[Sub.z.v, .bool false]) (by kernel_rfl) (.inl ⟨by unfold dueN;rw [if_pos (by omega)],rfl,hp.chg⟩)
 refine cl_of (atRef_any _ j.height height step hs j.pay.l.length hmax) ?_
 rintro e w ⟨rfl,hc⟩
 replace hp:=hp.call0 hc
 refine ⟨_,rfl,?_⟩
 obtain ⟨n,hn⟩:∃n,tierAt j.height.toNat height.toNat step j.pay.l.length=n:=⟨_,rfl⟩
 rw [hn]
 ((conv=>whnf);repeat' ((first|((with_reducible refine br_id ?_);((with_reducible refine br_eq (fun hx=>?_) (fun hx=>?_))<;>(try (exfalso;first|omega|contradiction))))|((with_reducible refine cn_id ?_);(refine cn rfl ?_))|((with_reducible refine ld_id ?_);(apply ld_hs hp;(focus repeat' constructor);exact rfl))|((with_reducible refine ldn_id ?_);first|(apply lda_hs hp;(focus repeat' constructor);exact rfl)|(apply ldn_hs hp;(focus repeat' constructor);exact rfl;exact rfl))|((with_reducible refine st_id ?_);(apply sta_hs hp;(focus repeat' constructor);exact rfl;exact rfl;clear hp;intro w hp;(try dsimp only [List.set] at hp)))|((with_reducible refine gen_id ?_);(apply gen_build;exact rfl;exact rfl))|((with_reducible refine dr_id ?_);(refine dr_autog tabOk (by kernel_rfl) (by decide+kernel) ?_;(try replace hp:=hp.drew))))<;>(conv=>whnf)))
 ·exact ps_val (v':= .tuple #[Sub.z.v, .bool false]) (by kernel_rfl) (.inl ⟨by unfold dueN;rw [if_pos (by omega)],rfl,hp.chg⟩)
 have hlt:n < j.pay.l.length:=by rw [←hn];exact tierAt_lt (by omega)
 obtain ⟨b,o,x,hA,hb,hrow,hxx⟩:=h.row.has hlt
 have htx:=h.tx x (List.mem_of_getElem? hxx)
 have hfew:=few_tx hf (List.mem_of_getElem? hxx)
 ((conv=>whnf);repeat' ((first|((with_reducible refine cn_id ?_);first|(refine cn rfl ?_)|(refine cn ‹_› ?_))|((with_reducible refine ld_id ?_);((refine ld_row hp hB ‹_› ‹_› _ _ rfl ‹_› (by rfl) ?_)))|((with_reducible refine ldn_id ?_);(apply lda_hs hp;(focus repeat' constructor);exact rfl))|((with_reducible refine st_id ?_);(apply sta_hs hp;(focus repeat' constructor);exact rfl;exact rfl;clear hp;intro w hp;(try dsimp only [List.set] at hp)))|((with_reducible refine gen_id ?_);first|((refine gen_bs rfl hp el_u8 u8L [] [] rfl rfl rfl (fun _ h=>by cases h) (by omega) ?_);clear hp;intro bq w hp)|((refine gen_appe rfl hp 0 rfl el_u8 rfl ⟨rfl,rfl,rfl⟩ x.tx rfl (htx.keep hp.chg hB) (fun _ _=>rfl) u8L_one (by omega) (by simp only [maxLen];omega) ?_);clear hp;intro A' c' w hg hp;dsimp only [List.set] at hp)|((refine gen_build (t:=69) (out:=(Sub.mk j.key j.breach height n ⟨A',c',x.tx.l⟩).c) rfl (by kernel_rfl) ?_)))|((with_reducible refine rd_id ?_);((refine rd_ixs rfl rfl ‹_› rfl rfl (by omega) ?_))))<;>(conv=>whnf)))
 refine ps_val (v':= .tuple #[(Sub.mk j.key j.breach height n ⟨A',c',x.tx.l⟩).v, .bool true]) rfl (.inr ⟨n,x,⟨A',c',x.tx.l⟩,?_,hxx,rfl,rfl,hp.made1 (j:=0) rfl⟩)
 unfold dueN
 rw [if_neg (by omega),hn]
def sameB (a b:Sub):Bool:=decide (a.key=b.key) && (decide (a.breach=b.breach) && (decide (a.height=b.height) && (decide (a.tier=b.tier) && decide (a.tx.l=b.tx.l))))
theorem same_any {B:Nat} {w0:World} (a b:Sub) (ha:SlAt B w0 u8L 1 a.tx) (hb:SlAt B w0 u8L 1 b.tx):Calls Tryz.prog 78 #[a.v,b.v] w0 fun e w'=>e= .returned (.bool (sameB a b))∧Chg N0 w0 w':=by
 have hp:=Hp.start (S:=N0) w0
 have hB:∀b,N0 b→B≤b:=fun _ hh=>hh.elim
 have u2:=Tryz.underlying38
 refine calls_x (args:= [_,_]) tabOk Tryz.func78 Tryz.ntmps78 Tryz.results78 rfl (Nat.le_of_ble_eq_true rfl) ?_
 ((conv=>whnf);repeat' ((first|((with_reducible refine br_id ?_);first|(with_reducible refine br_t ?_)|(with_reducible refine br_f ?_)|((with_reducible refine br_eq (fun hx=>?_) (fun hx=>?_))<;>(try (exfalso;first|omega|contradiction)))|((with_reducible refine br_s (fun hx=>?_) (fun hx=>?_))<;>(try (exfalso;first|omega|contradiction))))|((with_reducible refine ld_id ?_);(apply ld_hs hp;(focus repeat' constructor);exact rfl))|((with_reducible refine ldn_id ?_);(apply ldn_hs hp;(focus repeat' constructor);exact rfl;exact rfl))|((with_reducible refine al_id ?_);(refine al_cel hp ?_;clear hp;intro bb w hp))|((with_reducible refine gen_id ?_);first|((refine gen_eqa rfl rfl rfl (eq_key a.key b.key) (by kernel_rfl) (.inl rfl) ?_))|((refine gen_eqa rfl rfl rfl (eq_id a.breach b.breach) (by kernel_rfl) (.inl rfl) ?_))|((refine gen_b2s rfl (ha.keep hp.chg hB) u2 Tryz.underlying5 Tryz.underlying9 rfl ?_))|((refine gen_b2s rfl (hb.keep hp.chg hB) u2 Tryz.underlying5 Tryz.underlying9 rfl ?_))|((refine gen_streq rfl rfl rfl (.inl rfl) ?_))))<;>(conv=>whnf)))
 all_goals simp only [if_true,decide_eq_true_eq,decide_eq_false_iff_not] at*
 ·refine ps_val (v':= .bool (decide (a.tx.l=b.tx.l))) rfl ⟨?_,hp.chg⟩
  have:a.height=b.height:=UInt32.toNat_inj.1 (by omega)
  simp [sameB, *]
 all_goals
  refine ps_val (v':= .bool false) rfl ⟨?_,hp.chg⟩
  have h1:sameB a b=false:=by
   first
    |(simp [sameB, *];done)
    |(have:a.height≠b.height:=fun hh=>by
       have:a.height.toNat=b.height.toNat:=congrArg _ hh
       omega
      simp [sameB, *])
  rw [h1]
def jobA (b1 b2:Nat) (live:Int):Job:=⟨⟨0,0⟩,Id.z,5,0,live,⟨some ⟨b2,0,none⟩,1, [⟨1,⟨some ⟨b1,0,none⟩,1, [7]⟩⟩]⟩⟩
theorem alive34_any (w0:World):Calls Tryz.prog 15 #[] w0 fun e w'=>e= .returned (.bool true)∧Chg N0 w0 w':=by
 have hp:=Hp.start (S:=N0) w0
 have u2:=Tryz.underlying38
 refine calls_x (args:= []) tabOk Tryz.func15 Tryz.ntmps15 Tryz.results15 rfl (Nat.le_of_ble_eq_true rfl) ?_
 ((conv=>whnf);repeat' ((first|((with_reducible refine cn_id ?_);(refine cn rfl ?_))|((with_reducible refine ldn_id ?_);(apply lda_hs hp;(focus repeat' constructor);exact rfl))|((with_reducible refine al_id ?_);(refine al_cel hp ?_;clear hp;intro bb w hp))|((with_reducible refine st_id ?_);(apply sta_hs hp;(focus repeat' constructor);exact rfl;exact rfl;clear hp;intro w hp;(try dsimp only [List.set] at hp)))|((with_reducible refine gen_id ?_);first|((refine gen_bs rfl hp el_u8 u8L [7] [.int .u8 7] rfl rfl rfl (fun _ _=>rfl) (by omega) ?_);clear hp;intro b1 w hp)|((refine gen_bs rfl hp el_tier Tier.c [⟨1,⟨some ⟨b1,0,none⟩,1, [7]⟩⟩] [Tier.v ⟨1,⟨some ⟨b1,0,none⟩,1, [7]⟩⟩] rfl rfl rfl (fun _ h=>by simp at h;subst h;rfl) (by omega) ?_);clear hp;intro b2 w hp)|((refine gen_build (t:=49) (out:=(jobA b1 b2 (-1)).c) rfl (by kernel_rfl) ?_))|(apply gen_build;exact rfl;exact rfl)))<;>(conv=>whnf)))
 have hpay:PayAt w.heap.size w (jobA b1 b2 (-1)).pay:=⟨hp.row (j:=1) rfl,fun t ht=>by simp [jobA] at ht;subst ht;exact hp.row (j:=2) rfl⟩
 refine cl_of (due_any hpay rfl 5 1 (by omega)) ?_
 rintro e w (⟨hd,_,_⟩|⟨n,t,s,hd,ht,hs,rfl,hm⟩)
 ·simp [dueN,tierAt,jobA] at hd
 obtain rfl:n=0:=by simp [dueN,tierAt,jobA] at hd;omega
 simp [jobA] at ht
 subst ht
 replace hs:s.l= [7]:=hs
 replace hp:=hp.add hm
 refine ⟨_,rfl,?_⟩
 ((conv=>whnf);repeat' ((first|((with_reducible refine cn_id ?_);(refine cn rfl ?_))|((with_reducible refine ldn_id ?_);(apply lda_hs hp;(focus repeat' constructor);exact rfl))|((with_reducible refine al_id ?_);(refine al_cel hp ?_;clear hp;intro bb w hp))|((with_reducible refine st_id ?_);first|(apply sta_hs hp;(focus repeat' constructor);exact rfl;exact rfl;clear hp;intro w hp;(try dsimp only [List.set] at hp))|(apply st_hs hp;(focus repeat' constructor);exact rfl;exact rfl;clear hp;intro w hp;(try dsimp only [List.set] at hp))))<;>(conv=>whnf)))
 have hpay:PayAt w.heap.size w (jobA b1 b2 0).pay:=⟨hp.row (j:=3) rfl,fun t ht=>by simp [jobA] at ht;subst ht;exact hp.row (j:=4) rfl⟩
 refine cl_of (due_any (j:=jobA b1 b2 0) hpay rfl 9 1 (by omega)) ?_
 rintro e w (⟨_,rfl,hc⟩|⟨n,t,s,hd,ht,hs,rfl,hm⟩)
 rotate_left
 ·simp [dueN,tierAt,jobA] at hd
 replace hp:=hp.call0 hc
 refine ⟨_,rfl,?_⟩
 ((conv=>whnf);repeat' ((first|((with_reducible refine br_id ?_);first|(with_reducible refine br_t ?_)|(with_reducible refine br_f ?_)|((with_reducible refine br_eq (fun hx=>?_) (fun hx=>?_))<;>(try (exfalso;first|omega|contradiction)))|((with_reducible refine br_s (fun hx=>?_) (fun hx=>?_))<;>(try (exfalso;first|omega|contradiction))))|((with_reducible refine cn_id ?_);(refine cn rfl ?_))|((with_reducible refine ld_id ?_);(apply ld_hs hp;(focus repeat' constructor);exact rfl))|((with_reducible refine al_id ?_);(refine al_cel hp ?_;clear hp;intro bb w hp))|((with_reducible refine st_id ?_);(apply sta_hs hp;(focus repeat' constructor);exact rfl;exact rfl;clear hp;intro w hp;(try dsimp only [List.set] at hp)))|((with_reducible refine gen_id ?_);first|((refine gen_b2s rfl (hp.row (j:=2) rfl) u2 Tryz.underlying5 Tryz.underlying9 rfl ?_))|((refine gen_streq rfl (b:= [7]) rfl rfl (.inl rfl) ?_))))<;>(conv=>whnf)))
 all_goals first
  |exact ps_val (v':= .bool true) rfl ⟨rfl,hp.chg⟩
  |exact absurd rfl hx
  |(exfalso;simp [hs] at hx;done)
end Go.Proofs.YteabebmlclgakaaGreat
/- SubP: lists of submissions, their bytes told; the document's comparison. No condition. -/
namespace Go.Proofs.YteabebmlclgakaaGreat
open Go.RowKit
set_option maxRecDepth 100000
set_option maxHeartbeats 2000000
structure SubP where
 key:Key
 breach:Id
 height:UInt32
 tier:Int
 bytes:List UInt8
 deriving DecidableEq
abbrev Sub.p (s:Sub):SubP:=⟨s.key,s.breach,s.height,s.tier,s.tx.l⟩
theorem el_sub:ElT Tryz.prog 60 69 37 80:=elt_of (z:=Sub.z.v) Tryz.underlying60 (by kernel_rfl) rfl (by omega)
theorem sub_one {l:List Sub}:∀x∈l,∀u∈Sub.c x,u.oneCell'=true:=fun x _ u hu=>List.all_eq_true.1 (show (Sub.c x).all Value.oneCell'=true from rfl) u hu
theorem sameB_p (x y:Sub):sameB x y=decide (x.p=y.p):=by
 unfold sameB
 rw [Bool.eq_iff_iff]
 simp [Sub.p]
structure SubsAt (B:Nat) (w:World) (l:Sl Sub):Prop where
 row:SlAt B w Sub.c 37 l
 tx:∀x∈l.l,SlAt B w u8L 1 x.tx
abbrev stxR (s:Sub):Res:=rowR 5 1 u8L s.tx
abbrev subRs (s:Sl Sub):List Res:=rowR 69 37 Sub.c s::s.l.map stxR
theorem subRs_at {w:World} {s:Sl Sub} (h:(star (subRs s)).ok w):SubsAt w.heap.size w s:=by
 have hp:=Hp.open h
 exact ⟨hp.row (j:=0) rfl,fun b hb=>rowR_at (e:=5) (hp.ok (stxR b) (List.mem_cons_of_mem _ (List.mem_map_of_mem hb)))⟩
theorem SubsAt.more {B B':Nat} {w:World} {l:Sl Sub} (h:SubsAt B w l) (hB:B≤B'):SubsAt B' w l:=⟨h.row.more hB,fun x hx=>(h.tx x hx).more hB⟩
theorem take_map_next {α β:Type} {a b:List α} {f:α→β} {i:Nat} {x y:α} (hx:a[i]? =some x) (hy:b[i]? =some y) (h:(a.take i).map f=(b.take i).map f) (he:f x=f y):(a.take (i+1)).map f=(b.take (i+1)).map f:=by
 rw [List.take_add_one,List.take_add_one,hx,hy,List.map_append,List.map_append,h]
 simp [he]
theorem map_differ {α β:Type} {a b:List α} {f:α→β} {i:Nat} {x y:α} (hx:a[i]? =some x) (hy:b[i]? =some y) (he:f x≠f y):a.map f≠b.map f:=fun h=>by
 have h1:=congrArg (·[i]?) h
 simp only [List.getElem?_map,hx,hy,Option.map_some,Option.some.injEq] at h1
 exact he h1
theorem rall33_any {B B':Nat} {w0:World} {a b:Sl Sub} (ha:SubsAt B w0 a) (hb:SubsAt B' w0 b):Calls Tryz.prog 23 #[a.v,b.v] w0 fun e w'=>e= .returned (.bool (decide (a.l.map (·.p)=b.l.map (·.p))))∧Chg N0 w0 w':=by
 have hp:=Hp.start (S:=N0) w0
 replace ha:=ha.more (Nat.le_max_left B B')
 replace hb:=hb.more (Nat.le_max_right B B')
 have hB:∀b,N0 b→max B B'≤b:=fun _ hh=>hh.elim
 have us:=Tryz.underlying60
 have hm1:a.l.length≤9223372036854775807:=by have:=ha.row.le;have:=ha.row.max;simp only [maxLen] at this;omega
 have hm2:b.l.length≤9223372036854775807:=by have:=hb.row.le;have:=hb.row.max;simp only [maxLen] at this;omega
 have hno:(a.l.length:Int)≠b.l.length→a.l.map (·.p)≠b.l.map (·.p):=fun h e=>by
  have:=congrArg List.length e
  rw [List.length_map,List.length_map] at this
  omega
 refine calls_x (args:= [_,_]) tabOk Tryz.func23 Tryz.ntmps23 Tryz.results23 rfl (Nat.le_of_ble_eq_true rfl) ?_
 ((conv=>whnf);repeat' ((first|((with_reducible refine br_id ?_);((with_reducible refine br_ne (fun hx=>?_) (fun hx=>?_))<;>(try (exfalso;first|omega|contradiction))))|((with_reducible refine gen_id ?_);(apply gen_len;exact rfl;exact rfl;assumption)))<;>(conv=>whnf)))
 ·exact ps_val (v':= .bool false) rfl ⟨by rw [decide_eq_false (hno hx)],hp.chg⟩
 ·have hlen:a.l.length=b.l.length:=by omega
  clear hno
  refine lp_inv (α:=Nat) (fun i=> [(0,a.v),(1,b.v),(5,i64 i)]) (fun i w=>i≤a.l.length∧(a.l.take i).map (·.p)=(b.l.take i).map (·.p)∧Hp N0 w0 w []) (fun i=>a.l.length - i) 0 (by (repeat' (first|exact trivial|(refine ⟨rfl,?_⟩)))) ⟨by omega,rfl,hp⟩ ?_
  clear hp
  rintro i e0 w ⟨hi,heq,hp⟩
  dsimp only at hi heq hp ⊢
  rcases Nat.lt_or_ge i a.l.length with hlt|hge
  ·obtain ⟨b1,o1,x,hA,hb1,hrow,hxx⟩:=ha.row.has hlt
   obtain ⟨b2,o2,y,hA2,hb2,hrow2,hyy⟩:=hb.row.has (i:=i) (by omega)
   have hsm:=fun (w:World) (hc:Chg N0 w0 w)=>same_any x y ((ha.tx x (List.mem_of_getElem? hxx)).keep hc hB) ((hb.tx y (List.mem_of_getElem? hyy)).keep hc hB)
   have hix:(0:Int)≤i∧(i:Int) < b.l.length:=by omega
   rw [sameB_p] at hsm
   by_cases hxy:x.p=y.p
   ·rw [decide_eq_true hxy] at hsm
    ((conv=>whnf);repeat' ((first|((with_reducible refine br_id ?_);first|(with_reducible refine br_t ?_)|(with_reducible refine br_not ?_)|((with_reducible refine br_dec (fun hx=>?_) (fun hx=>?_))<;>(try (exfalso;first|omega|contradiction))))|((with_reducible refine ar_id ?_);(refine ar_i64 (by omega) ?_))|((with_reducible refine ldn_id ?_);((refine ldn_rowx hp hB ‹_› ‹_› _ rfl ‹_› rfl ?_)))|((with_reducible refine gen_id ?_);(apply gen_len;exact rfl;exact rfl;assumption))|((with_reducible refine dr_id ?_);(refine dr_auto tabOk (by kernel_rfl) (by decide+kernel) ?_;(try replace hp:=hp.drew)))|((with_reducible refine cl_id ?_);((refine cl_eq ((hsm _ hp.chg)) rfl rfl ?_;rintro e w ⟨rfl,hcc⟩;replace hp:=hp.call0 hcc;refine ⟨_,rfl,?_⟩)))|((with_reducible refine rd_id ?_);((refine rd_ixs rfl rfl ‹_› rfl rfl (by omega) ?_))))<;>(conv=>whnf)))
    exact lp_next (i+1) (by show a.l.length - (i+1) < a.l.length - i;omega) (by (repeat' (first|exact trivial|(refine ⟨rfl,?_⟩)))) ⟨by show i+1≤_;omega,take_map_next hxx hyy heq hxy,hp⟩
   ·rw [decide_eq_false hxy] at hsm
    ((conv=>whnf);repeat' ((first|((with_reducible refine br_id ?_);first|(with_reducible refine br_f ?_)|(with_reducible refine br_not ?_)|((with_reducible refine br_dec (fun hx=>?_) (fun hx=>?_))<;>(try (exfalso;first|omega|contradiction))))|((with_reducible refine ldn_id ?_);((refine ldn_rowx hp hB ‹_› ‹_› _ rfl ‹_› rfl ?_)))|((with_reducible refine gen_id ?_);(apply gen_len;exact rfl;exact rfl;assumption))|((with_reducible refine dr_id ?_);(refine dr_auto tabOk (by kernel_rfl) (by decide+kernel) ?_;(try replace hp:=hp.drew)))|((with_reducible refine cl_id ?_);((refine cl_eq ((hsm _ hp.chg)) rfl rfl ?_;rintro e w ⟨rfl,hcc⟩;replace hp:=hp.call0 hcc;refine ⟨_,rfl,?_⟩)))|((with_reducible refine rd_id ?_);((refine rd_ixs rfl rfl ‹_› rfl rfl (by omega) ?_))))<;>(conv=>whnf)))
    exact ps_val (v':= .bool false) rfl ⟨by rw [decide_eq_false (map_differ hxx hyy hxy)],hp.chg⟩
  ·((conv=>whnf);repeat' ((first|((with_reducible refine br_id ?_);((with_reducible refine br_dec (fun hx=>?_) (fun hx=>?_))<;>(try (exfalso;first|omega|contradiction))))|((with_reducible refine gen_id ?_);(apply gen_len;exact rfl;exact rfl;assumption)))<;>(conv=>whnf)))
   rw [List.take_of_length_le (by omega),List.take_of_length_le (by omega)] at heq
   exact ps_val (v':= .bool true) rfl ⟨by rw [decide_eq_true heq],hp.chg⟩
end Go.Proofs.YteabebmlclgakaaGreat
/- SendP: what is sent out of jobs, and what is live behind it. No program in sight. -/
namespace Go.Proofs.YteabebmlclgakaaGreat
open Go.RowKit
set_option maxRecDepth 100000
set_option maxHeartbeats 2000000
def dueP (j:JobP) (ht:UInt32) (step:Int):Option Nat:=
 if j.mined.toNat≠0∨j.tiers.length=0∨(tierAt j.height.toNat ht.toNat step j.tiers.length:Int)=j.live then none else some (tierAt j.height.toNat ht.toNat step j.tiers.length)
theorem dueN_p (j:Job) (ht:UInt32) (step:Int):dueN j ht step=dueP j.p ht step:=by
 unfold dueN dueP Job.p
 simp only [List.length_map]
def subO (ht:UInt32) (step:Int) (j:JobP):Option SubP:=match dueP j ht step with
 |none=>none
 |some n=>match j.tiers[n]? with
  |none=>none
  |some t=>some ⟨j.key,j.breach,ht,n,t.2⟩
def sentJ (ht:UInt32) (step:Int) (j:JobP):JobP:=match dueP j ht step with
 |none=>j
 |some n=>{j with live:=n}
def subsP (ht:UInt32) (step:Int) (l:List JobP):List SubP:=l.filterMap (subO ht step)
def sentP (ht:UInt32) (step:Int) (l:List JobP):List JobP:=l.map (sentJ ht step)
theorem dueP_lt {j:JobP} {ht:UInt32} {step:Int} {n:Nat} (h:dueP j ht step=some n):n < j.tiers.length∧j.mined.toNat=0∧n=tierAt j.height.toNat ht.toNat step j.tiers.length:=by
 unfold dueP at h
 split at h
 ·cases h
 ·cases h
  exact ⟨tierAt_lt (by omega),by omega,rfl⟩
theorem dueP_sent (j:JobP) (ht:UInt32) (step:Int):dueP (sentJ ht step j) ht step=none:=by
 unfold sentJ
 cases h:dueP j ht step with
 |none=>exact h
 |some n=>
  obtain ⟨h1,h2,h3⟩:=dueP_lt h
  unfold dueP
  exact if_pos (.inr (.inr (by show (tierAt j.height.toNat ht.toNat step j.tiers.length:Int)=(n:Int);rw [h3])))
theorem subO_none {j:JobP} {ht:UInt32} {step:Int} (h:dueP j ht step=none):subO ht step j=none:=by unfold subO;rw [h]
theorem sentJ_none {j:JobP} {ht:UInt32} {step:Int} (h:dueP j ht step=none):sentJ ht step j=j:=by unfold sentJ;rw [h]
theorem subO_some {j:JobP} {ht:UInt32} {step:Int} {n:Nat} {t:UInt32×List UInt8} (h:dueP j ht step=some n) (ht':j.tiers[n]? =some t):subO ht step j=some ⟨j.key,j.breach,ht,n,t.2⟩:=by unfold subO;rw [h];dsimp only;rw [ht']
theorem subs_sent (ht:UInt32) (step:Int) (l:List JobP):subsP ht step (sentP ht step l)= []:=by
 unfold subsP sentP
 rw [List.filterMap_eq_nil_iff]
 intro j hj
 obtain ⟨k,_,rfl⟩:=List.mem_map.1 hj
 exact subO_none (dueP_sent k ht step)
theorem sent_sent (ht:UInt32) (step:Int) (l:List JobP):sentP ht step (sentP ht step l)=sentP ht step l:=by
 unfold sentP
 rw [List.map_map]
 exact List.map_congr_left fun j _=>sentJ_none (dueP_sent j ht step)
def sentE (ht:UInt32) (step:Int) (a:Key×EntB):Key×EntB:=match dueN a.2.job ht step with
 |none=>a
 |some n=>setP a n
theorem sentE_key (ht:UInt32) (step:Int) (a:Key×EntB):(sentE ht step a).1=a.1:=by unfold sentE;split<;>rfl
theorem sentE_p (ht:UInt32) (step:Int) (a:Key×EntB):(sentE ht step a).2.job.p=sentJ ht step a.2.job.p:=by
 unfold sentE sentJ
 rw [dueN_p]
 cases dueP a.2.job.p ht step<;>rfl
def sendL (ht:UInt32) (step:Int) (l:List (Key×EntB)) (i:Nat):List (Key×EntB):=(l.take i).map (sentE ht step)++l.drop i
theorem sendL_zero (ht:UInt32) (step:Int) (l:List (Key×EntB)):sendL ht step l 0=l:=by simp [sendL]
theorem sendL_all {ht:UInt32} {step:Int} {l:List (Key×EntB)} {i:Nat} (h:l.length≤i):sendL ht step l i=l.map (sentE ht step):=by unfold sendL;rw [List.take_of_length_le h,List.drop_of_length_le h,List.append_nil]
theorem sendL_keys (ht:UInt32) (step:Int) (l:List (Key×EntB)) (i:Nat):(sendL ht step l i).map (·.1)=l.map (·.1):=by
 unfold sendL
 have h1:(l.take i).map ((fun x:Key×EntB=>x.1)∘sentE ht step)=(l.take i).map (·.1):=List.map_congr_left fun a _=>sentE_key ht step a
 rw [List.map_append,List.map_map,h1,←List.map_append,List.take_append_drop]
theorem sendL_at {ht:UInt32} {step:Int} {l:List (Key×EntB)} {i:Nat} {a:Key×EntB} (h:l[i]? =some a):(sendL ht step l i)[i]? =some a:=by
 have hl:=(List.getElem?_eq_some_iff.1 h).1
 unfold sendL
 rw [List.getElem?_append_right (by rw [List.length_map,List.length_take];omega),List.length_map,List.length_take,Nat.min_eq_left (by omega),Nat.sub_self,List.getElem?_drop,Nat.add_zero]
 exact h
theorem sendL_set {ht:UInt32} {step:Int} {l:List (Key×EntB)} {i:Nat} {a:Key×EntB} (h:l[i]? =some a):(sendL ht step l i).set i (sentE ht step a)=sendL ht step l (i+1):=by
 have hl:=(List.getElem?_eq_some_iff.1 h).1
 unfold sendL
 rw [List.set_append_right _ _ (by rw [List.length_map,List.length_take];omega),List.length_map,List.length_take,Nat.min_eq_left (by omega),Nat.sub_self,List.take_add_one,h,List.map_append,List.append_assoc]
 congr 1
 rw [List.drop_eq_getElem_cons hl]
 rfl
theorem sendL_none {ht:UInt32} {step:Int} {l:List (Key×EntB)} {i:Nat} {a:Key×EntB} (h:l[i]? =some a) (hd:dueN a.2.job ht step=none):sendL ht step l (i+1)=sendL ht step l i:=by
 rw [←sendL_set h,show sentE ht step a=a by unfold sentE;rw [hd]]
 exact set_sameR (sendL_at h)
theorem sendL_live {ht:UInt32} {step:Int} {l:List (Key×EntB)} {i:Nat} {a:Key×EntB} {n:Nat} (hn:(l.map (·.1)).Nodup) (h:l[i]? =some a) (hd:dueN a.2.job ht step=some n):liveE (sendL ht step l i) a.1 n=true∧liveL (sendL ht step l i) a.1 n=sendL ht step l (i+1):=by
 have hn':((sendL ht step l i).map (·.1)).Nodup:=by rw [sendL_keys];exact hn
 have hat:=sendL_at (ht:=ht) (step:=step) h
 have hlk:=lku_nd hn' (List.mem_of_getElem? hat)
 have hd':=hd
 rw [dueN_p] at hd'
 obtain ⟨h1,h2,h3⟩:=dueP_lt hd'
 have hl:a.2.job.p.tiers.length=a.2.job.pay.l.length:=List.length_map ..
 have h2':a.2.job.mined.toNat=0:=h2
 have hE:liveE (sendL ht step l i) a.1 n=true:=by
  unfold liveE
  rw [hlk]
  exact decide_eq_true ⟨h2',by omega,by omega⟩
 refine ⟨hE,?_⟩
 unfold liveL
 rw [if_pos hE,←set_upd (f:=fun a=>setP a n) hn' hat,←sendL_set h,show sentE ht step a=setP a n by unfold sentE;rw [hd]]
theorem JtI.map {ord:List Key} {l:List (Key×EntB)} (h:JtI ord l) {f:Key×EntB→Key×EntB} (h1:∀a∈l,(f a).1=a.1∧(f a).2.job.key=a.2.job.key∧(f a).2.ids=a.2.ids∧(f a).2.job.pay=a.2.job.pay∧rightJ (f a).2.job=true):JtI ord (l.map f):=by
 have hk:(l.map f).map (·.1)=l.map (·.1):=by
  rw [List.map_map]
  exact List.map_congr_left fun a ha=>(h1 a ha).1
 refine ⟨by rw [hk];exact h.ord,by rw [hk];exact h.nd,?_,?_,?_⟩
 all_goals
  intro p hp
  obtain ⟨a,ha,rfl⟩:=List.mem_map.1 hp
  obtain ⟨g1,g2,g3,g4,g5⟩:=h1 a ha
 ·rw [g2,g1];exact h.key a ha
 ·exact g5
 ·rw [g3,g4];exact h.ids a ha
theorem rightJ_live {j:Job} {t:Int} (h:rightJ j=true) (h1: -1≤t) (h2:t < (j.pay.l.length:Int)) (h3:j.mined.toNat=0∨t= -1):rightJ {j with live:=t}=true:=by
 unfold rightJ at h ⊢
 rw [Bool.and_eq_true,decide_eq_true_eq] at h ⊢
 exact ⟨h.1,h.2.1,h1,h2,h3⟩
theorem sendL_jti {ord:List Key} {l:List (Key×EntB)} (h:JtI ord l) (ht:UInt32) (step:Int) (i:Nat):JtI ord (sendL ht step l i):=by
 have hm:∀p∈sendL ht step l i,∃a∈l,p.1=a.1∧p.2.job.key=a.2.job.key∧p.2.ids=a.2.ids∧p.2.job.pay=a.2.job.pay∧rightJ p.2.job=true:=fun p hp=>by
  rcases List.mem_append.1 hp with hp|hp
  ·obtain ⟨a,ha,rfl⟩:=List.mem_map.1 hp
   have ha:=List.mem_of_mem_take ha
   refine ⟨a,ha,?_⟩
   unfold sentE
   cases hd:dueN a.2.job ht step with
   |none=>exact ⟨rfl,rfl,rfl,rfl,h.right a ha⟩
   |some n=>
    rw [dueN_p] at hd
    obtain ⟨h1,h2,_⟩:=dueP_lt hd
    have hl:a.2.job.p.tiers.length=a.2.job.pay.l.length:=List.length_map ..
    exact ⟨rfl,rfl,rfl,rfl,rightJ_live (h.right a ha) (by omega) (by omega) (.inl h2)⟩
  ·have hp:=List.mem_of_mem_drop hp
   exact ⟨p,hp,rfl,rfl,rfl,rfl,h.right p hp⟩
 refine ⟨by rw [sendL_keys];exact h.ord,by rw [sendL_keys];exact h.nd,fun p hp=>?_,fun p hp=>?_,fun p hp=>?_⟩
 all_goals obtain ⟨a,ha,g1,g2,g3,g4,g5⟩:=hm p hp
 ·rw [g2,g1];exact h.key a ha
 ·exact g5
 ·rw [g3,g4];exact h.ids a ha
theorem sent_jti {ord:List Key} {l:List (Key×EntB)} (h:JtI ord l) (ht:UInt32) (step:Int):JtI ord (l.map (sentE ht step)):=by
 have:=sendL_jti h ht step l.length
 rwa [sendL_all (Nat.le_refl _)] at this
theorem sent_ps (ht:UInt32) (step:Int) (l:List (Key×EntB)):(l.map (sentE ht step)).map (fun p=>p.2.job.p)=sentP ht step (l.map fun p=>p.2.job.p):=by
 unfold sentP
 rw [List.map_map,List.map_map]
 exact List.map_congr_left fun a _=>sentE_p ht step a
theorem duePost_no {j:Job} {ht:UInt32} {step:Int} {w0:World} {e:Ending} {w':World} (h:DuePost j ht step w0 e w') (hd:dueP j.p ht step=none):e= .returned (.tuple #[Sub.z.v, .bool false])∧Chg N0 w0 w':=by
 rcases h with ⟨_,h1,h2⟩|⟨n,t,s,h1,_⟩
 ·exact ⟨h1,h2⟩
 ·rw [dueN_p,hd] at h1
  cases h1
theorem duePost_yes {j:Job} {ht:UInt32} {step:Int} {w0:World} {e:Ending} {w':World} (h:DuePost j ht step w0 e w') {n:Nat} (hd:dueP j.p ht step=some n):∃z:Sub,subO ht step j.p=some z.p∧z.tier=n∧e= .returned (.tuple #[z.v, .bool true])∧Made (stxR z) w0 w':=by
 rcases h with ⟨h1,_⟩|⟨m,t,s,h1,htt,hs,h2,h3⟩
 ·rw [dueN_p,hd] at h1
  cases h1
 ·rw [dueN_p,hd] at h1
  cases h1
  refine ⟨⟨j.key,j.breach,ht,n,s⟩,?_,rfl,h2,h3⟩
  rw [subO_some (t:=tk t) hd (by show (j.pay.l.map tk)[n]? =_;rw [List.getElem?_map,htt];rfl)]
  show some (SubP.mk _ _ _ _ t.tx.l)=some (SubP.mk _ _ _ _ s.l)
  rw [hs]
  rfl
end Go.Proofs.YteabebmlclgakaaGreat
/- Rf2: ranges over functions whose rounds hand over a resource, and which read what the loop keeps. No condition. -/
namespace Go.Proofs.YteabebmlclgakaaGreat
open Go.RowKit
structure IterG (P:Program) (T:Nat→Prop) (Rd:World→Prop) (gf:Nat) (lb:Array Value) {α β:Type} (enc:α→Array Value) (yR:α→Res) (pr:α→β) (xs:List β) (W0:World):Prop where
 out:∀(l:Nat) (R X:Nat→Res→Prop) (r0:Res),R 0 r0→r0.ok W0→(∀b,r0.dom b→¬T b)→(∀i r W,R i r→r.ok W→Rd W)→
  (∀i x W r,R i r→xs[i]? =some (pr x)→Mut r0 (star [r,yR x]) W0 W→YieldAt Fence.wide 0 P l (enc x) W fun e W'=>
   (e= .returned (.bool true)∧∃r',R (i+1) r'∧Mut (star [r,yR x]) r' W W')∨(e= .returned (.bool false)∧∃r',X i r'∧Mut (star [r,yR x]) r' W W'))→
  Calls P gf (#[.func (.yield l) #[] #[]]++lb) W0 fun e W'=>(∃v,e= .returned v)∧((∃r',R xs.length r'∧Mut r0 r' W0 W')∨∃i r',i < xs.length∧X i r'∧Mut r0 r' W0 W')
theorem rf_iterG {P:Program} {n:Nat} {g:Operand} {ps:Array Tmp} {assign body:Code} {xa x:XC} {K:Exit→Env→World→Prop} {e:Env} {S:Nat→Prop} {w0 w:World} {rs:List Res} (hp:Hp S w0 w rs)
  {gf:Nat} {lb:Array Value} {α β:Type} {enc:α→Array Value} {yR:α→Res} {pr:α→β} {xs:List β} {T:Nat→Prop} {Rd:World→Prop} (hfa:flat assign=true) (hfl:flat body=true) (hg:ev n e g= .func (.func gf) #[] lb) (hgf:∀args w,(callFunc gf args).run P w= .ok (.enter gf args) w) (es:α→List (Nat×Value)) (hps:∀y,(enc y).size=ps.size) (hes:∀y,(ps.zip (enc y)).toList=es y)
  (hT:∀b,T b→b < w.heap.size∧∀r∈rs,¬r.dom b) (hit:∀w1,Chg N0 w w1→IterG P T Rd gf lb enc yR pr xs w1) (rsI:Nat→List Res→Prop) (h0:rsI 0 rs) (hrd:∀i q L D o W,rsI i q→(star (lpR L D o q)).ok W→Rd W) (jx:Exit) (hjx:∃c,jumpOf jx=some c) (rsX:Nat→List Res→Prop)
  (hbody:∀i y L D o o' W q,rsI i q→xs[i]? =some (pr y)→Chg S w0 W→(∀b,(star [star (lpR L D o q),yR y]).dom b→S b∨w0.heap.size≤b)→Hp (star [star (lpR L D o q),yR y]).dom W W (lpR L D o q++ [yR y])→
   xa (kAsg L o o' (x (kBody (fun W'=>∃q',rsI (i+1) q'∧Hp (star [star (lpR L D o q),yR y]).dom W W' (lpR L D o' q')) (fun ex W'=>ex=jx∧∃q',rsX i q'∧Hp (star [star (lpR L D o q),yR y]).dom W W' (lpR L D o' q'))))) (eatL (es y) ⟨e.f, []⟩) W)
  (hdone:∀L D o W q,rsI xs.length q→Hp S w0 W (lpR L D o q)→K .normal ⟨e.f,D::e.ds⟩ W)
  (hstop:∀i L D o W q,i < xs.length→rsX i q→Hp S w0 W (lpR L D o q)→K jx ⟨e.f,D::e.ds⟩ W):Rf P n g ps assign body xa x K e w:=by
 refine ⟨fun hxa hx a hr=>?_⟩
 refine wpIn_rangeFunc fun fn _=>?_
 obtain ⟨rec,hrec⟩:∃rec:LoopState→Option Code→Loop,rec=fun st pe=>{state:=st,pending:=pe,fn,tmps:=a.tmps,params:=ps,assign,body,defers:=w.heap.size}:=⟨_,rfl⟩
 obtain ⟨L,hL⟩:∃L,L=w.heap.size+1:=⟨_,rfl⟩
 obtain ⟨D,hD⟩:∃D,D=w.heap.size:=⟨_,rfl⟩
 obtain ⟨W1,hW1⟩:∃W1,(w.alloc (.deferred (some []))).alloc (.loop (rec .ready none))=W1:=⟨_,rfl⟩
 have hc1:Chg N0 w W1:=by rw [←hW1];exact ((Chg.refl _ _).alloc _).alloc _
 have hp1:Hp S w0 W1 (lpR L D (.loop (rec .ready none)) rs):=by
  rw [hL,hD,←hW1]
  have h1:Hp S w0 (w.alloc (.deferred (some []))) (objR w.heap.size (.deferred (some []))::rs):=hp.new ((Chg.refl _ _).alloc _) (objR_ok.2 (World.alloc_heap_new w _)) fun b hb=>by rw [objR_dom.1 hb];exact Nat.le_refl _
  refine h1.new ((Chg.refl _ _).alloc _) (objR_ok.2 ?_) fun b hb=>by rw [objR_dom.1 hb,World.size_alloc];exact Nat.le_refl _
  have:=World.alloc_heap_new (w.alloc (.deferred (some []))) (.loop (rec .ready none))
  rwa [World.size_alloc] at this
 refine ⟨L, [dmark D],W1,{target:= .fn (.func gf) lb,args:= #[.func (.yield L) #[] #[]]},W1,gf, #[.func (.yield L) #[] #[]]++lb,W1,?_,?_,fun _ _=>trivial,?_,FW_depth,?_⟩
 ·rw [←hW1,hrec,hL,hD];exact run_enterLoop_outer _ _ _ _ _
 ·simp only [resolve,hr.eval,hg]
  simp [go_sem]
 ·simp [invoke,go_sem,hgf]
 ·have hpS:=hp1.fold1
  refine callsFW (Calls.mono ((hit W1 hc1).out L (fun i r=>∃q,rsI i q∧r=star (lpR L D (.loop (rec .ready none)) q)) (fun i r=>∃q,rsX i q∧r=star (lpR L D (.loop (rec .done (jumpOf jx))) q)) (star (lpR L D (.loop (rec .ready none)) rs)) ⟨rs,h0,rfl⟩ (hpS.get (j:=0) rfl) ?_ (by rintro i _ W ⟨q,hq,rfl⟩ hok;exact hrd i q _ _ _ _ hq hok) ?_) ?_)
  ·intro b hb hTb
   obtain ⟨r,hr1,hr2⟩:=star_dom.1 hb
   obtain ⟨h1,h2⟩:=hT b hTb
   rcases List.mem_cons.1 hr1 with rfl|hr1
   ·have:=objR_dom.1 hr2;omega
   rcases List.mem_cons.1 hr1 with rfl|hr1
   ·have:=objR_dom.1 hr2;omega
   exact h2 r hr1 hr2
  ·rintro i y W _ ⟨q,hq,rfl⟩ hy m
   have hok:=star_ok.1 m.ok
   have hLW:W.heap[L]? =some (.loop (rec .ready none)):=objR_ok.1 ((star_ok.1 (hok.1 _ (List.mem_cons_self ..))).1 _ (List.mem_cons_self ..))
   have hrun:=run_yield (P:=P) (args:=enc y) hLW (by rw [hrec];exact hps y)
   obtain ⟨ob,hob⟩:∃ob,ob=Obj.loop {rec .ready none with state:= .busy}:=⟨_,rfl⟩
   have hpW:Hp S w0 W (lpR L D (.loop (rec .ready none)) q++ [yR y]):=by
    have h1:=(hpS.via (j:=0) rfl m)
    have h2:Hp S w0 W [star [star (lpR L D (.loop (rec .ready none)) q),yR y]]:=h1
    exact h2.unfold1.unfold
   have hrel:Rel n (eatL (es y) ⟨e.f, []⟩) {tmps:=(es y).foldl (fun t p=>t.setIfInBounds p.1 p.2) a.tmps,defers:= []}:=eatL_rel _ _ _ _ ⟨rfl,hr.2.1,hr.2.2⟩
   have hact:({tmps:=(ps.zip (enc y)).foldl (fun tmps (p:Tmp×Value)=>tmps.setIfInBounds p.1 p.2) a.tmps,defers:= []}:Act)={tmps:=(es y).foldl (fun t p=>t.setIfInBounds p.1 p.2) a.tmps,defers:= []}:=by
    rw [←hes y,←Array.foldl_toList]
   have hb:=hxa _ _ _ W L hfa (hact▸hrel) (hbody i y L D (.loop (rec .ready none)) ob W q hq hy hpW.chg (fun b hb=>by
    rcases m.dom b hb with h9|h9
    ·exact hpS.own _ (List.mem_cons_self ..) b h9
    ·exact .inr (Nat.le_trans hp1.chg.size h9)) (Hp.open m.ok).unfold)
   refine ⟨fn,_,assign,body,by rw [hrec] at hrun;exact hrun,roundIn_of_wpIn trivial (wpIn_mono (show assign.wpIn (FW (some L)) 0 P _ _ W from hb) ?_)⟩
   rintro ex1 a1 W1' ⟨e1,hr1,hk1⟩
   cases ex1<;>try exact hk1.elim
   obtain ⟨hL1,hk1⟩:=hk1.out
   refine ⟨_,by have:=run_beginRound (P:=P) hL1 (by rw [hrec]);rw [←hob] at this;exact this,?_⟩
   have fin:∀(W3:World) (rs3:List Res) (jump:Option Code),Hp (star [star (lpR L D (.loop (rec .ready none)) q),yR y]).dom W W3 (lpR L D ob rs3)→
     (Instr.endRound L jump).run P W3= .ok (.bool jump.isNone) (W3.putObj L (.loop (rec (if jump.isNone then .ready else .done) jump)))∧
     Mut (star [star (lpR L D (.loop (rec .ready none)) q),yR y]) (star (lpR L D (.loop (rec (if jump.isNone then .ready else .done) jump)) rs3)) W (W3.putObj L (.loop (rec (if jump.isNone then .ready else .done) jump))):=fun W3 rs3 jump h3=>by
    have hl3:W3.heap[L]? =some (.loop {rec .ready none with state:= .busy}):=by rw [←hob];exact objR_ok.1 (h3.get (j:=0) rfl)
    have hrun3:=run_endRound (P:=P) jump hl3
    have h6:=h3.putObj (j:=0) rfl (.loop (rec (if jump.isNone then .ready else .done) jump))
    refine ⟨by rw [hrun3];simp only [hrec],h6.shut (List.Sublist.refl _)⟩
   refine wpIn_mono (show body.wpIn (FW (some L)) 0 P _ _ _ from hx _ _ _ _ L hfl hr1 hk1) ?_
   rintro ex a3 W3 ⟨e3,hr3,hk3⟩
   cases ex with
   |normal=>
    obtain ⟨q',hq',hk4⟩:=hk3.out
    obtain ⟨h1,h2⟩:=fin W3 _ none hk4
    exact ⟨_,_,h1, .inl ⟨rfl,_,⟨q',hq',rfl⟩,h2⟩⟩
   |ret=>
    obtain ⟨hj,q',hq',hk4⟩:=hk3.out
    subst hj
    obtain ⟨h1,h2⟩:=fin W3 _ (some .ret) hk4
    exact ⟨_,_,h1, .inr ⟨rfl,_,⟨q',hq',rfl⟩,h2⟩⟩
   |exit id=>
    obtain ⟨hj,q',hq',hk4⟩:=hk3.out
    subst hj
    obtain ⟨h1,h2⟩:=fin W3 _ (some (.exit id)) hk4
    exact ⟨_,_,h1, .inr ⟨rfl,_,⟨q',hq',rfl⟩,h2⟩⟩
   |goto t=>
    obtain ⟨hj,q',hq',hk4⟩:=hk3.out
    subst hj
    obtain ⟨h1,h2⟩:=fin W3 _ (some (.goto t)) hk4
    exact ⟨_,_,h1, .inr ⟨rfl,_,⟨q',hq',rfl⟩,h2⟩⟩
   |panic c=>exact hk3.elim
   |outgrown=>exact hk3.elim
  ·rintro e3 W3 ⟨⟨v,rfl⟩,hm⟩
   have hrel:Rel n ⟨e.f,D::e.ds⟩ {a with defers:= [dmark D]++a.defers}:=⟨by simp [hr.1],hr.2.1,hr.2.2⟩
   rcases hm with ⟨_,⟨q,hq,rfl⟩,m⟩|⟨i,_,hi,⟨q,hq,rfl⟩,m⟩
   ·have h1:Hp S w0 W3 [star (lpR L D (.loop (rec .ready none)) q)]:=hpS.via (j:=0) rfl m
    have h2:=h1.unfold1
    have hl3:W3.heap[L]? =some (.loop (rec .ready none)):=objR_ok.1 (h2.get (j:=0) rfl)
    have hpe:(rec .ready none).pending=none:=by rw [hrec]
    refine ⟨none,_,by have:=run_endLoop (P:=P) hl3 (by rw [hrec];simp);rw [hpe] at this;exact this,?_⟩
    exact ⟨_,hrel,hdone _ _ _ _ _ hq (h2.putObj (j:=0) rfl _)⟩
   ·have h1:Hp S w0 W3 [star (lpR L D (.loop (rec .done (jumpOf jx))) q)]:=hpS.via (j:=0) rfl m
    have h2:=h1.unfold1
    have hl3:W3.heap[L]? =some (.loop (rec .done (jumpOf jx))):=objR_ok.1 (h2.get (j:=0) rfl)
    have hpe:(rec .done (jumpOf jx)).pending=jumpOf jx:=by rw [hrec]
    have hend:=run_endLoop (P:=P) hl3 (by rw [hrec];simp)
    have hk:=hstop i _ _ _ _ _ hi hq (h2.putObj (j:=0) rfl (.loop {rec .done (jumpOf jx) with state:= .exhausted}))
    generalize W3.putObj L (.loop {rec .done (jumpOf jx) with state:= .exhausted})=W4 at hend hk
    rw [hpe] at hend
    refine ⟨jumpOf jx,W4,hend,?_⟩
    cases hj:jumpOf jx with
    |none=>
     obtain ⟨c,hc⟩:=hjx
     rw [hj] at hc
     cases hc
    |some c=>exact jump_wp hj hrel hk
end Go.Proofs.YteabebmlclgakaaGreat
