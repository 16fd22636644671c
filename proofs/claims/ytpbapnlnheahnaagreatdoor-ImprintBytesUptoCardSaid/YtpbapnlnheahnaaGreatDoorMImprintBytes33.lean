/- MImprintBytes33: parts of the proof of ImprintBytes: DocR1, DocR2, DocR3, DocR4. No condition of their own. -/
import Derived.Test.YtpbapnlnheahnaaGreatDoorMImprintBytes27
import Derived.Test.YtpbapnlnheahnaaGreatDoorMImprintBytes32
import Derived.Test.YtpbapnlnheahnaaGreatDoorMImprintBytes21
set_option linter.unusedSimpArgs false
set_option linter.unusedVariables false
namespace Go.Proofs.YtpbapnlnheahnaaGreatDoor
open Go.RowKit
set_option maxRecDepth 100000
set_option maxHeartbeats 4000000
def fndBy {α:Type} (p:α→Bool) (l:List α):Int:=match l.findIdx? p with
 |some i=>(i:Nat)
 |none=> -1
theorem fndBy_at {α:Type} {p:α→Bool} {l:List α} {i:Nat} {x:α} (hi:l[i]? =some x) (hx:p x=true) (h:∀y∈l.take i,p y=false):fndBy p l=(i:Nat):=by
 unfold fndBy
 obtain ⟨h1,h2⟩:=List.getElem?_eq_some_iff.1 hi
 have:l.findIdx? p=some i:=by
  rw [List.findIdx?_eq_some_iff_getElem]
  refine ⟨h1,by rw [h2];exact hx,fun j hj=>?_⟩
  have:=h l[j] (by
   refine List.mem_of_getElem? (i:=j) ?_
   rw [List.getElem?_take_of_lt hj]
   exact List.getElem?_eq_getElem (by omega))
  rw [this]
  simp
 rw [this]
theorem fndBy_no {α:Type} {p:α→Bool} {l:List α} (h:∀y∈l,p y=false):fndBy p l= -1:=by
 unfold fndBy
 rw [List.findIdx?_eq_none_iff.2 fun x hx=>by rw [h x hx]]
theorem fndBy_ge {α:Type} (p:α→Bool) (l:List α):0≤fndBy p l↔∃x∈l,p x=true:=by
 unfold fndBy
 cases h:l.findIdx? p with
 |none=>
  rw [List.findIdx?_eq_none_iff] at h
  constructor
  ·intro hh
   dsimp only at hh
   omega
  ·rintro ⟨x,hx,hp⟩
   rw [h x hx] at hp
   cases hp
 |some i=>
  obtain ⟨h1,h2,_⟩:=List.findIdx?_eq_some_iff_getElem.1 h
  exact ⟨fun _=>⟨_,List.getElem_mem h1,h2⟩,fun _=>Int.natCast_nonneg _⟩
theorem all_take {α:Type} {l:List α} {i:Nat} {y:α} {p:α→Bool} {q:Bool} (h:∀z∈l.take i,p z=q) (hy:l[i]? =some y) (hp:p y=q):∀z∈l.take (i+1),p z=q:=fun z hz=>by
 rw [List.take_add_one,hy] at hz
 rcases List.mem_append.1 hz with hz|hz
 ·exact h z hz
 ·obtain rfl:z=y:=by simpa using hz
  exact hp
theorem rin31_any (w0:World) (n m:Int):Calls Tryz.prog 90 #[i64 n,i64 m] w0 fun e w'=>e= .returned (.bool (decide (1≤n∧n≤m)))∧Chg N0 w0 w':=by
 have hp:=Hp.start (S:=N0) w0
 by_cases h1:1≤n
 ·refine calls_x (args:= [_,_]) tabOk Tryz.func90 Tryz.ntmps90 Tryz.results90 rfl (Nat.le_of_ble_eq_true rfl) ?_
  ((conv=>whnf);repeat' (((with_reducible apply br_id);first|with_reducible refine br_t ?_|((with_reducible refine br_dec (fun hx=>?_) (fun hx=>?_))<;>(try (exfalso;first|omega|contradiction))))<;>(conv=>whnf)))
  all_goals exact ps_val (v':= .bool (decide (n≤m))) rfl ⟨congrArg (fun b=>Ending.returned (.bool b)) (decide_eq_decide.2 (by omega)),hp.chg⟩
 ·refine calls_x (args:= [_,_]) tabOk Tryz.func90 Tryz.ntmps90 Tryz.results90 rfl (Nat.le_of_ble_eq_true rfl) ?_
  ((conv=>whnf);repeat' (((with_reducible apply br_id);first|with_reducible refine br_f ?_|((with_reducible refine br_dec (fun hx=>?_) (fun hx=>?_))<;>(try (exfalso;first|omega|contradiction))))<;>(conv=>whnf)))
  all_goals exact ps_val (v':= .bool false) rfl ⟨congrArg (fun b=>Ending.returned (.bool b)) (decide_eq_false (by omega)).symm,hp.chg⟩
theorem rsound31_any (w0:World) (c:Cfg):Calls Tryz.prog 34 #[c.v] w0 fun e w'=>e= .returned (.bool (soundC c))∧Chg N0 w0 w':=by
 have hp:=Hp.start (S:=N0) w0
 obtain ⟨q1,h1⟩:∃q,decide (1≤c.dep∧c.dep≤16)=q:=⟨_,rfl⟩
 obtain ⟨q2,h2⟩:∃q,decide (1≤c.stp∧c.stp≤1000)=q:=⟨_,rfl⟩
 obtain ⟨q3,h3⟩:∃q,decide (1≤c.kep∧c.kep≤65535)=q:=⟨_,rfl⟩
 obtain ⟨q4,h4⟩:∃q,decide (1≤c.ses∧c.ses≤64)=q:=⟨_,rfl⟩
 obtain ⟨q5,h5⟩:∃q,decide (1≤c.cap∧c.cap≤65536)=q:=⟨_,rfl⟩
 obtain ⟨q6,h6⟩:∃q,decide (1≤c.com∧c.com≤65536)=q:=⟨_,rfl⟩
 have hS:soundC c=(q1 && (q2 && (q3 && (q4 && (q5 && q6))))):=by
  unfold soundC
  rw [←h1,←h2,←h3,←h4,←h5,←h6,Bool.eq_iff_iff]
  simp only [decide_eq_true_eq,Bool.and_eq_true]
 have c1:=fun w=>rin31_any w c.dep 16
 have c2:=fun w=>rin31_any w c.stp 1000
 have c3:=fun w=>rin31_any w c.kep 65535
 have c4:=fun w=>rin31_any w c.ses 64
 have c5:=fun w=>rin31_any w c.cap 65536
 have c6:=fun w=>rin31_any w c.com 65536
 rw [h1] at c1
 rw [h2] at c2
 rw [h3] at c3
 rw [h4] at c4
 rw [h5] at c5
 rw [h6] at c6
 rw [hS]
 clear hS h1 h2 h3 h4 h5 h6
 refine calls_x (args:= [_]) tabOk Tryz.func34 Tryz.ntmps34 Tryz.results34 rfl (Nat.le_of_ble_eq_true rfl) ?_
 ((conv=>whnf);repeat' ((first|((with_reducible apply br_id);first|with_reducible refine br_t ?_|with_reducible refine br_f ?_|((with_reducible refine br_s (fun hx=>?_) (fun hx=>?_))<;>(try (exfalso;first|omega|contradiction))))|((with_reducible apply ld_id);apply ld_hs hp;(focus repeat' constructor);exact rfl)|((with_reducible apply al_id);refine al_cel hp ?_;clear hp;intro bb w hp)|((with_reducible apply cl_id);first|((refine cl_eq ((c1 _)) rfl rfl ?_;rintro e w ⟨rfl,hcc⟩;replace hp:=hp.call0 hcc;refine ⟨_,rfl,?_⟩))|((refine cl_eq ((c2 _)) rfl rfl ?_;rintro e w ⟨rfl,hcc⟩;replace hp:=hp.call0 hcc;refine ⟨_,rfl,?_⟩))|((refine cl_eq ((c3 _)) rfl rfl ?_;rintro e w ⟨rfl,hcc⟩;replace hp:=hp.call0 hcc;refine ⟨_,rfl,?_⟩))|((refine cl_eq ((c4 _)) rfl rfl ?_;rintro e w ⟨rfl,hcc⟩;replace hp:=hp.call0 hcc;refine ⟨_,rfl,?_⟩))|((refine cl_eq ((c5 _)) rfl rfl ?_;rintro e w ⟨rfl,hcc⟩;replace hp:=hp.call0 hcc;refine ⟨_,rfl,?_⟩))|((refine cl_eq ((c6 _)) rfl rfl ?_;rintro e w ⟨rfl,hcc⟩;replace hp:=hp.call0 hcc;refine ⟨_,rfl,?_⟩))))<;>(conv=>whnf)))
 all_goals first
  |exact ps_val (v':= .bool q6) rfl ⟨by simp_all,hp.chg⟩
  |exact ps_val (v':= .bool false) rfl ⟨by simp_all,hp.chg⟩
theorem rhas26_any {B:Nat} {w0:World} {l:Sl Blk} (h:SlAt B w0 Blk.c 65 l) (v:Id):Calls Tryz.prog 92 #[l.v,v.v] w0 fun e w'=>e= .returned (i64 (fndBy (fun b:Blk=>decide (b.hash=v)) l.l))∧Chg N0 w0 w':=by
 have hp:=Hp.start (S:=N0) w0
 have hB:∀b,N0 b→B≤b:=fun _ hh=>hh.elim
 have us:=Tryz.underlying26
 have hmax:l.l.length≤9223372036854775807:=by have:=h.le;have:=h.max;simp only [maxLen] at this;omega
 refine calls_x (args:= [_,_]) tabOk Tryz.func92 Tryz.ntmps92 Tryz.results92 rfl (Nat.le_of_ble_eq_true rfl) ?_
 ((conv=>whnf);repeat' (((with_reducible apply al_id);refine al_cel hp ?_;clear hp;intro bb w hp)<;>(conv=>whnf)))
 obtain ⟨b3,hb3⟩:∃x,x=bb:=⟨_,rfl⟩
 subst hb3
 refine lp_inv (α:=Nat) (fun i=> [(0,l.v),(3,ptr b3),(5,i64 i)]) (fun i w=>i≤l.l.length∧(∀y∈l.l.take i,decide (y.hash=v)=false)∧Hp N0 w0 w [cel b3 48 v.c.toArray]) (fun i=>l.l.length - i) 0 (by (repeat' (first|exact trivial|(refine ⟨rfl,?_⟩)))) ⟨by omega,by simp,hp⟩ ?_
 clear hp
 rintro i e0 w ⟨hi,hno,hp⟩
 dsimp only at hi hno hp ⊢
 rcases Nat.lt_or_ge i l.l.length with hlt|hge
 ·obtain ⟨bb,oo,y,hA,hbb,hrow,hyy⟩:=h.has hlt
  ((conv=>whnf);repeat' ((first|((with_reducible apply br_id);first|((with_reducible refine br_dec (fun hx=>?_) (fun hx=>?_))<;>(try (exfalso;first|omega|contradiction)))|((with_reducible refine br_s (fun hx=>?_) (fun hx=>?_))<;>(try (exfalso;first|omega|contradiction))))|((with_reducible apply ar_id);refine ar_i64 (by omega) ?_)|((with_reducible apply ldn_id);first|(refine ldn_row hp hB ‹_› ‹_› _ _ rfl ‹_› (by rfl) (by rfl) ?_)|(apply lda_hs hp;(focus repeat' constructor);exact rfl))|((with_reducible apply gen_id);apply gen_len;exact rfl;exact rfl;assumption)|((with_reducible apply dr_id);refine dr_auto tabOk (by kernel_rfl) (by decide+kernel) ?_;(try replace hp:=hp.drew))|((with_reducible apply rd_id);first|(refine rd_ixs rfl rfl ‹_› rfl rfl (by omega) ?_)|(refine rd_eqa rfl rfl rfl (eq_id y.hash v) (by kernel_rfl) (.inl rfl) ?_)))<;>(conv=>whnf)))
  ·have he:y.hash=v:=by simpa using hx
   exact ps_val (v':=i64 i) rfl ⟨by rw [fndBy_at hyy (decide_eq_true he) hno],hp.chg⟩
  ·have hne:y.hash≠v:=by simpa using hx
   exact lp_next (i+1) (by show l.l.length - (i+1) < l.l.length - i;omega) (by (repeat' (first|exact trivial|(refine ⟨rfl,?_⟩)))) ⟨by show i+1≤_;omega,all_take hno hyy (decide_eq_false hne),hp⟩
 ·((conv=>whnf);repeat' ((first|((with_reducible apply br_id);(with_reducible refine br_dec (fun hx=>?_) (fun hx=>?_))<;>(try (exfalso;first|omega|contradiction)))|((with_reducible apply gen_id);apply gen_len;exact rfl;exact rfl;assumption))<;>(conv=>whnf)))
  rw [List.take_of_length_le hge] at hno
  exact ps_val (v':=i64 (-1)) rfl ⟨by rw [fndBy_no hno],hp.chg⟩
theorem rjfind29_any {B:Nat} {w0:World} {l:Sl Job} (h:SlAt B w0 Job.c 38 l) (k:Key):Calls Tryz.prog 96 #[l.v,k.v] w0 fun e w'=>e= .returned (i64 (fndBy (fun j:Job=>decide (j.key=k)) l.l))∧Chg N0 w0 w':=by
 have hp:=Hp.start (S:=N0) w0
 have hB:∀b,N0 b→B≤b:=fun _ hh=>hh.elim
 have us:=Tryz.underlying29
 have hmax:l.l.length≤9223372036854775807:=by have:=h.le;have:=h.max;simp only [maxLen] at this;omega
 refine calls_x (args:= [_,_]) tabOk Tryz.func96 Tryz.ntmps96 Tryz.results96 rfl (Nat.le_of_ble_eq_true rfl) ?_
 ((conv=>whnf);repeat' (((with_reducible apply al_id);refine al_cel hp ?_;clear hp;intro bb w hp)<;>(conv=>whnf)))
 obtain ⟨b3,hb3⟩:∃x,x=bb:=⟨_,rfl⟩
 subst hb3
 refine lp_inv (α:=Nat) (fun i=> [(0,l.v),(3,ptr b3),(5,i64 i)]) (fun i w=>i≤l.l.length∧(∀y∈l.l.take i,decide (y.key=k)=false)∧Hp N0 w0 w [cel b3 54 k.c.toArray]) (fun i=>l.l.length - i) 0 (by (repeat' (first|exact trivial|(refine ⟨rfl,?_⟩)))) ⟨by omega,by simp,hp⟩ ?_
 clear hp
 rintro i e0 w ⟨hi,hno,hp⟩
 dsimp only at hi hno hp ⊢
 rcases Nat.lt_or_ge i l.l.length with hlt|hge
 ·obtain ⟨bb,oo,y,hA,hbb,hrow,hyy⟩:=h.has hlt
  have hyk:(Job.c y).take 2=Key.c y.key:=rfl
  ((conv=>whnf);repeat' ((first|((with_reducible apply br_id);first|((with_reducible refine br_dec (fun hx=>?_) (fun hx=>?_))<;>(try (exfalso;first|omega|contradiction)))|((with_reducible refine br_s (fun hx=>?_) (fun hx=>?_))<;>(try (exfalso;first|omega|contradiction))))|((with_reducible apply ar_id);refine ar_i64 (by omega) ?_)|((with_reducible apply ldn_id);first|(refine ldn_row hp hB ‹_› ‹_› _ _ rfl ‹_› (by rfl) (by rfl) ?_)|(apply lda_hs hp;(focus repeat' constructor);exact rfl))|((with_reducible apply gen_id);apply gen_len;exact rfl;exact rfl;assumption)|((with_reducible apply dr_id);refine dr_auto tabOk (by kernel_rfl) (by decide+kernel) ?_;(try replace hp:=hp.drew))|((with_reducible apply rd_id);first|(refine rd_ixs rfl rfl ‹_› rfl rfl (by omega) ?_)|(refine rd_eqa rfl rfl rfl (eq_key y.key k) (by kernel_rfl) (.inl rfl) ?_)))<;>(conv=>whnf)))
  ·have he:y.key=k:=by simpa using hx
   exact ps_val (v':=i64 i) rfl ⟨by rw [fndBy_at hyy (decide_eq_true he) hno],hp.chg⟩
  ·have hne:y.key≠k:=by simpa using hx
   exact lp_next (i+1) (by show l.l.length - (i+1) < l.l.length - i;omega) (by (repeat' (first|exact trivial|(refine ⟨rfl,?_⟩)))) ⟨by show i+1≤_;omega,all_take hno hyy (decide_eq_false hne),hp⟩
 ·((conv=>whnf);repeat' ((first|((with_reducible apply br_id);(with_reducible refine br_dec (fun hx=>?_) (fun hx=>?_))<;>(try (exfalso;first|omega|contradiction)))|((with_reducible apply gen_id);apply gen_len;exact rfl;exact rfl;assumption))<;>(conv=>whnf)))
  rw [List.take_of_length_le hge] at hno
  exact ps_val (v':=i64 (-1)) rfl ⟨by rw [fndBy_no hno],hp.chg⟩
theorem rjright29_any {B:Nat} {w0:World} {j:Job} (h:PayAt B w0 j.pay) (hl: -9223372036854775808≤j.live∧j.live≤9223372036854775807):Calls Tryz.prog 95 #[j.v] w0 fun e w'=>e= .returned (.bool (rightJ j))∧Chg N0 w0 w':=by
 have hp:=Hp.start (S:=N0) w0
 have hB:∀b,N0 b→B≤b:=fun _ hh=>hh.elim
 have u1:=Tryz.underlying55
 have hmax:j.pay.l.length≤9223372036854775807:=by have:=h.row.le;have:=h.row.max;simp only [maxLen] at this;omega
 obtain ⟨q,hq⟩:∃q,rightP j.pay=q:=⟨_,rfl⟩
 have hr:rightJ j=(q && decide (j.height.toNat≠0∧ -1≤j.live∧j.live < (j.pay.l.length:Int)∧(j.mined.toNat=0∨j.live= -1))):=by unfold rightJ;rw [hq]
 have hcall:∀{w:World},Chg N0 w0 w→Calls Tryz.prog 125 #[j.pay.pv] w fun e w'=>e= .returned (.bool q)∧Chg N0 w w':=fun hc=>by rw [←hq];exact rright_any (h.keep hc hB)
 rw [hr]
 refine calls_x (args:= [_]) tabOk Tryz.func95 Tryz.ntmps95 Tryz.results95 rfl (Nat.le_of_ble_eq_true rfl) ?_
 cases q with
 |false=>
  ((conv=>whnf);repeat' ((first|((with_reducible apply br_id);with_reducible refine br_f ?_)|((with_reducible apply ldn_id);apply ldn_hs hp;(focus repeat' constructor);exact rfl;exact rfl)|((with_reducible apply al_id);refine al_cel hp ?_;clear hp;intro bb w hp)|((with_reducible apply cl_id);(refine cl_eq ((hcall hp.chg)) rfl rfl ?_;rintro e w ⟨rfl,hcc⟩;replace hp:=hp.call0 hcc;refine ⟨_,rfl,?_⟩)))<;>(conv=>whnf)))
  exact ps_val (v':= .bool false) rfl ⟨rfl,hp.chg⟩
 |true=>
  ((conv=>whnf);repeat' ((first|((with_reducible apply br_id);first|with_reducible refine br_t ?_|with_reducible refine br_f ?_|((with_reducible refine br_dec (fun hx=>?_) (fun hx=>?_))<;>(try (exfalso;first|omega|contradiction)))|((with_reducible refine br_eq (fun hx=>?_) (fun hx=>?_))<;>(try (exfalso;first|omega|contradiction))))|((with_reducible apply ld_id);apply ld_hs hp;(focus repeat' constructor);exact rfl)|((with_reducible apply ldn_id);apply ldn_hs hp;(focus repeat' constructor);exact rfl;exact rfl)|((with_reducible apply al_id);refine al_cel hp ?_;clear hp;intro bb w hp)|((with_reducible apply gen_id);apply gen_len;exact rfl;exact rfl;assumption)|((with_reducible apply cl_id);(refine cl_eq ((hcall hp.chg)) rfl rfl ?_;rintro e w ⟨rfl,hcc⟩;replace hp:=hp.call0 hcc;refine ⟨_,rfl,?_⟩)))<;>(conv=>whnf)))
  all_goals first
   |exact ps_val (v':= .bool false) rfl ⟨by rw [Bool.true_and,decide_eq_false (by omega)],hp.chg⟩
   |exact ps_val (v':= .bool true) rfl ⟨by rw [Bool.true_and,decide_eq_true (by omega)],hp.chg⟩
   |exact ps_val (v':= .bool (decide (j.live= -1))) rfl ⟨by rw [Bool.true_and];exact congrArg (fun b=>Ending.returned (.bool b)) (decide_eq_decide.2 (by omega)),hp.chg⟩
theorem take_cut {α:Type} (s:Sl α) (sz i:Nat):(s.cut sz 0 i).l=s.l.take i:=List.drop_zero
theorem rright26_any {B:Nat} {w0:World} (d:Int) (ht:UInt32) {l:Sl Blk} (h:SlAt B w0 Blk.c 65 l) (htx:∀b∈l.l,SlAt B w0 Id.c 32 b.tx) (hn:l.l.length≤10000):Calls Tryz.prog 35 #[.agg #[i64 d,u32 ht,l.v]] w0 fun e w'=>e= .returned (.bool (chS d ht l.l))∧Chg N0 w0 w':=by
 have hp:=Hp.start (S:=N0) w0
 have hB:∀b,N0 b→B≤b:=fun _ hh=>hh.elim
 have us:=Tryz.underlying26
 have hle:=h.le
 have hn1:(if BinOp.neq=BinOp.eql then false else !false)=true:=rfl
 have hn0:(if BinOp.neq=BinOp.eql then true else !true)=false:=rfl
 unfold chS
 by_cases hd:1≤d∧d≤16∧(l.l.length:Int)≤d+1∧l.l.length≤ht.toNat
 ·rw [decide_eq_true hd,Bool.true_and]
  have hht:=ht.toNat_lt
  refine calls_x (args:= [_]) tabOk Tryz.func35 Tryz.ntmps35 Tryz.results35 rfl (Nat.le_of_ble_eq_true rfl) ?_
  ((conv=>whnf);repeat' ((first|((with_reducible apply br_id);first|with_reducible refine br_f ?_|((with_reducible refine br_dec (fun hx=>?_) (fun hx=>?_))<;>(try (exfalso;first|omega|contradiction))))|((with_reducible apply ar_id);first|refine ar_i64 (by omega) ?_|refine ar_u64 (by omega) ?_)|((with_reducible apply ld_id);apply ld_hs hp;(focus repeat' constructor);exact rfl)|((with_reducible apply al_id);refine al_cel hp ?_;clear hp;intro bb w hp)|((with_reducible apply gen_id);apply gen_len;exact rfl;exact rfl;assumption))<;>(conv=>whnf)))
  all_goals first
   |(exfalso;omega)
   |skip
  obtain ⟨b1,hb1⟩:∃x,x=bb:=⟨_,rfl⟩
  subst hb1
  refine lp_inv (α:=Nat) (fun i=> [(1,ptr b1),(3,i64 i)]) (fun i w=>i≤l.l.length∧(∀k,k < i→winAt l.l k=true)∧Hp N0 w0 w [cel b1 85 #[i64 d,u32 ht,l.v]]) (fun i=>l.l.length - i) 0 (by (repeat' (first|exact trivial|(refine ⟨rfl,?_⟩)))) ⟨by omega,fun k hk=>absurd hk (by omega),hp⟩ ?_
  clear hp
  rintro i e0 w ⟨hi,hall,hp⟩
  dsimp only at hi hall hp ⊢
  rcases Nat.lt_or_ge i l.l.length with hlt|hge
  ·obtain ⟨bb,oo,y,hA,hbb,hrow,hyy⟩:=h.has hlt
   have hty:=htx y (List.mem_of_getElem? hyy)
   obtain ⟨q,hq⟩:∃q,rightB y=q:=⟨_,rfl⟩
   have hrt:∀{w:World},Chg N0 w0 w→Calls Tryz.prog 91 #[y.v] w fun e w'=>e= .returned (.bool q)∧Chg N0 w w':=fun hc=>by rw [←hq];exact rightRef_any (hty.keep hc hB)
   obtain ⟨m,hm⟩:∃m,fndBy (fun b:Blk=>decide (b.hash=y.hash)) (l.l.take i)=m:=⟨_,rfl⟩
   have hhs:∀{w:World},Chg N0 w0 w→Calls Tryz.prog 92 #[(l.cut 65 0 i).v,y.hash.v] w fun e w'=>e= .returned (i64 m)∧Chg N0 w w':=fun hc=>by
    have:=rhas26_any ((h.cut (lo:=0) (hi:=i) (by omega) (by omega)).keep hc hB) y.hash
    rw [take_cut,hm] at this
    exact this
   have hmm:0≤m↔y.hash∈(l.l.take i).map (·.hash):=by
    rw [←hm,fndBy_ge,List.mem_map]
    simp only [decide_eq_true_eq]
   have hno:∀{w:World},winAt l.l i=false→Chg N0 w0 w→Ending.returned (.bool false)= .returned (.bool ((List.range l.l.length).all (winAt l.l)))∧Chg N0 w0 w:=fun hn hc=>⟨by rw [show (List.range l.l.length).all (winAt l.l)=false from allR_no hlt hn],hc⟩
   have hyh:(Blk.c y).take 32=Id.c y.hash:=rfl
   have hyp:((Blk.c y).drop 32).take 32=Id.c y.parent:=rfl
   cases q with
   |false=>
    have hwF:winAt l.l i=false:=by unfold winAt;rw [hyy];dsimp only;rw [hq];rfl
    ((conv=>whnf);repeat' ((first|((with_reducible apply br_id);(with_reducible refine br_dec (fun hx=>?_) (fun hx=>?_))<;>(try (exfalso;first|omega|contradiction)))|((with_reducible apply ld_id);apply ld_hs hp;(focus repeat' constructor);exact rfl)|((with_reducible apply gen_id);apply gen_len;exact rfl;exact rfl;assumption))<;>(conv=>whnf)))
    refine dr_autos [] 1000 tabOk (by kernel_rfl) (by decide+kernel) ?_
    replace hp:=hp.drew
    ((conv=>whnf);repeat' ((first|((with_reducible apply br_id);first|with_reducible refine br_t ?_|with_reducible refine br_f ?_|with_reducible refine br_not ?_)|((with_reducible apply cn_id);refine cn ‹_› ?_)|((with_reducible apply ld_id);apply ld_hs hp;(focus repeat' constructor);exact rfl)|((with_reducible apply ldn_id);(refine ldn_rowx hp hB ‹_› ‹_› _ rfl ‹_› rfl ?_))|((with_reducible apply cl_id);(refine cl_eq ((hrt hp.chg)) rfl rfl ?_;rintro e w ⟨rfl,hcc⟩;replace hp:=hp.call0 hcc;refine ⟨_,rfl,?_⟩))|((with_reducible apply rd_id);(refine rd_ixs rfl rfl ‹_› rfl rfl (by omega) ?_)))<;>(conv=>whnf)))
    exact ps_val (v':= .bool false) rfl (hno hwF hp.chg)
   |true=>
    cases i with
    |zero=>
     have hwE:winAt l.l 0=decide (y.hash∉(l.l.take 0).map (·.hash)):=by unfold winAt;rw [hyy];dsimp only;rw [hq];rfl
     have hm0:¬0≤m:=fun h0=>by have:=hmm.1 h0;simp at this
     have hwT:winAt l.l 0=true:=by rw [hwE];simp
     ((conv=>whnf);repeat' ((first|((with_reducible apply br_id);(with_reducible refine br_dec (fun hx=>?_) (fun hx=>?_))<;>(try (exfalso;first|omega|contradiction)))|((with_reducible apply ld_id);apply ld_hs hp;(focus repeat' constructor);exact rfl)|((with_reducible apply gen_id);apply gen_len;exact rfl;exact rfl;assumption))<;>(conv=>whnf)))
     refine dr_autos [] 1000 tabOk (by kernel_rfl) (by decide+kernel) ?_
     replace hp:=hp.drew
     ((conv=>whnf);repeat' ((first|((with_reducible apply br_id);first|with_reducible refine br_t ?_|with_reducible refine br_f ?_|with_reducible refine br_not ?_|((with_reducible refine br_dec (fun hx=>?_) (fun hx=>?_))<;>(try (exfalso;first|omega|contradiction))))|((with_reducible apply ar_id);refine ar_i64 (by omega) ?_)|((with_reducible apply cn_id);refine cn ‹_› ?_)|((with_reducible apply ld_id);apply ld_hs hp;(focus repeat' constructor);exact rfl)|((with_reducible apply ldn_id);first|(refine ldn_row hp hB ‹_› ‹_› _ _ rfl ‹_› (by rfl) (by rfl) ?_)|(refine ldn_rowx hp hB ‹_› ‹_› _ rfl ‹_› rfl ?_))|((with_reducible apply cl_id);first|((refine cl_eq ((hrt hp.chg)) rfl rfl ?_;rintro e w ⟨rfl,hcc⟩;replace hp:=hp.call0 hcc;refine ⟨_,rfl,?_⟩))|((refine cl_eq ((hhs hp.chg)) rfl rfl ?_;rintro e w ⟨rfl,hcc⟩;replace hp:=hp.call0 hcc;refine ⟨_,rfl,?_⟩)))|((with_reducible apply rd_id);first|(refine rd_ixs rfl rfl ‹_› rfl rfl (by omega) ?_)|(refine rd_cuth rfl el_blkS l rfl hle rfl (h:=0) rfl (by omega) ?_)))<;>(conv=>whnf)))
     all_goals first
      |(exfalso;omega)
      |exact lp_next (0+1) (by show l.l.length - (0+1) < l.l.length - 0;omega) (by (repeat' (first|exact trivial|(refine ⟨rfl,?_⟩)))) ⟨by show 0+1≤_;omega,all_step hall hwT,hp⟩
    |succ k=>
     obtain ⟨z,hz⟩:∃z,l.l[k]? =some z:=⟨_,List.getElem?_eq_getElem (by omega)⟩
     have hzh:(Blk.c z).take 32=Id.c z.hash:=rfl
     have hwE:winAt l.l (k+1)=(decide (y.parent=z.hash) && decide (y.hash∉(l.l.take (k+1)).map (·.hash))):=by unfold winAt;rw [hyy];dsimp only;rw [hq,hz];rfl
     by_cases hpz:y.parent=z.hash
     ·rw [decide_eq_true hpz,Bool.true_and] at hwE
      have he:EqIs Tryz.prog 48 y.parent.v z.hash.v true:=by have:=eq_id y.parent z.hash;rwa [decide_eq_true hpz] at this
      by_cases hmI:y.hash∈(l.l.take (k+1)).map (·.hash)
      ·rw [decide_eq_false (fun hh=>hh hmI)] at hwE
       have hm1:=hmm.2 hmI
       ((conv=>whnf);repeat' ((first|((with_reducible apply br_id);(with_reducible refine br_dec (fun hx=>?_) (fun hx=>?_))<;>(try (exfalso;first|omega|contradiction)))|((with_reducible apply ld_id);apply ld_hs hp;(focus repeat' constructor);exact rfl)|((with_reducible apply gen_id);apply gen_len;exact rfl;exact rfl;assumption))<;>(conv=>whnf)))
       refine dr_autos [] 1000 tabOk (by kernel_rfl) (by decide+kernel) ?_
       replace hp:=hp.drew
       ((conv=>whnf);repeat' ((first|((with_reducible apply br_id);first|(with_reducible refine br_0 hn0 ?_)|with_reducible refine br_t ?_|with_reducible refine br_f ?_|with_reducible refine br_not ?_|((with_reducible refine br_dec (fun hx=>?_) (fun hx=>?_))<;>(try (exfalso;first|omega|contradiction))))|((with_reducible apply ar_id);(refine ar_n (k) (by omega) (by omega) ?_))|((with_reducible apply cn_id);refine cn ‹_› ?_)|((with_reducible apply ld_id);apply ld_hs hp;(focus repeat' constructor);exact rfl)|((with_reducible apply ldn_id);first|(refine ldn_row hp hB ‹_› ‹_› _ _ rfl ‹_› (by rfl) (by rfl) ?_)|(refine ldn_rowx hp hB ‹_› ‹_› _ rfl ‹_› rfl ?_))|((with_reducible apply cl_id);first|((refine cl_eq ((hrt hp.chg)) rfl rfl ?_;rintro e w ⟨rfl,hcc⟩;replace hp:=hp.call0 hcc;refine ⟨_,rfl,?_⟩))|((refine cl_eq ((hhs hp.chg)) rfl rfl ?_;rintro e w ⟨rfl,hcc⟩;replace hp:=hp.call0 hcc;refine ⟨_,rfl,?_⟩)))|((with_reducible apply rd_id);first|(refine rd_ixs rfl rfl ‹_› rfl rfl (by omega) ?_)|(refine rd_cuth rfl el_blkS l rfl hle rfl (h:=k+1) rfl (by omega) ?_)|(refine rd_eqa rfl rfl rfl he (by kernel_rfl) (.inr rfl) ?_)))<;>(conv=>whnf)))
       all_goals first
        |(exfalso;omega)
        |exact ps_val (v':= .bool false) rfl (hno hwE hp.chg)
      ·rw [decide_eq_true hmI] at hwE
       have hm1:¬0≤m:=fun h0=>hmI (hmm.1 h0)
       ((conv=>whnf);repeat' ((first|((with_reducible apply br_id);(with_reducible refine br_dec (fun hx=>?_) (fun hx=>?_))<;>(try (exfalso;first|omega|contradiction)))|((with_reducible apply ld_id);apply ld_hs hp;(focus repeat' constructor);exact rfl)|((with_reducible apply gen_id);apply gen_len;exact rfl;exact rfl;assumption))<;>(conv=>whnf)))
       refine dr_autos [] 1000 tabOk (by kernel_rfl) (by decide+kernel) ?_
       replace hp:=hp.drew
       ((conv=>whnf);repeat' ((first|((with_reducible apply br_id);first|(with_reducible refine br_0 hn0 ?_)|with_reducible refine br_t ?_|with_reducible refine br_f ?_|with_reducible refine br_not ?_|((with_reducible refine br_dec (fun hx=>?_) (fun hx=>?_))<;>(try (exfalso;first|omega|contradiction))))|((with_reducible apply ar_id);first|(refine ar_n (k) (by omega) (by omega) ?_)|refine ar_i64 (by omega) ?_)|((with_reducible apply cn_id);refine cn ‹_› ?_)|((with_reducible apply ld_id);apply ld_hs hp;(focus repeat' constructor);exact rfl)|((with_reducible apply ldn_id);first|(refine ldn_row hp hB ‹_› ‹_› _ _ rfl ‹_› (by rfl) (by rfl) ?_)|(refine ldn_rowx hp hB ‹_› ‹_› _ rfl ‹_› rfl ?_))|((with_reducible apply cl_id);first|((refine cl_eq ((hrt hp.chg)) rfl rfl ?_;rintro e w ⟨rfl,hcc⟩;replace hp:=hp.call0 hcc;refine ⟨_,rfl,?_⟩))|((refine cl_eq ((hhs hp.chg)) rfl rfl ?_;rintro e w ⟨rfl,hcc⟩;replace hp:=hp.call0 hcc;refine ⟨_,rfl,?_⟩)))|((with_reducible apply rd_id);first|(refine rd_ixs rfl rfl ‹_› rfl rfl (by omega) ?_)|(refine rd_cuth rfl el_blkS l rfl hle rfl (h:=k+1) rfl (by omega) ?_)|(refine rd_eqa rfl rfl rfl he (by kernel_rfl) (.inr rfl) ?_)))<;>(conv=>whnf)))
       all_goals first
        |(exfalso;omega)
        |exact lp_next (k+1+1) (by show l.l.length - (k+1+1) < l.l.length - (k+1);omega) (by (repeat' (first|exact trivial|(refine ⟨rfl,?_⟩)))) ⟨by show k+1+1≤_;omega,all_step hall hwE,hp⟩
     ·rw [decide_eq_false hpz,Bool.false_and] at hwE
      have he:EqIs Tryz.prog 48 y.parent.v z.hash.v false:=by have:=eq_id y.parent z.hash;rwa [decide_eq_false hpz] at this
      ((conv=>whnf);repeat' ((first|((with_reducible apply br_id);(with_reducible refine br_dec (fun hx=>?_) (fun hx=>?_))<;>(try (exfalso;first|omega|contradiction)))|((with_reducible apply ld_id);apply ld_hs hp;(focus repeat' constructor);exact rfl)|((with_reducible apply gen_id);apply gen_len;exact rfl;exact rfl;assumption))<;>(conv=>whnf)))
      refine dr_autos [] 1000 tabOk (by kernel_rfl) (by decide+kernel) ?_
      replace hp:=hp.drew
      ((conv=>whnf);repeat' ((first|((with_reducible apply br_id);first|(with_reducible refine br_1 hn1 ?_)|with_reducible refine br_t ?_|with_reducible refine br_f ?_|with_reducible refine br_not ?_|((with_reducible refine br_dec (fun hx=>?_) (fun hx=>?_))<;>(try (exfalso;first|omega|contradiction))))|((with_reducible apply ar_id);(refine ar_n (k) (by omega) (by omega) ?_))|((with_reducible apply cn_id);refine cn ‹_› ?_)|((with_reducible apply ld_id);apply ld_hs hp;(focus repeat' constructor);exact rfl)|((with_reducible apply ldn_id);first|(refine ldn_row hp hB ‹_› ‹_› _ _ rfl ‹_› (by rfl) (by rfl) ?_)|(refine ldn_rowx hp hB ‹_› ‹_› _ rfl ‹_› rfl ?_))|((with_reducible apply cl_id);(refine cl_eq ((hrt hp.chg)) rfl rfl ?_;rintro e w ⟨rfl,hcc⟩;replace hp:=hp.call0 hcc;refine ⟨_,rfl,?_⟩))|((with_reducible apply rd_id);first|(refine rd_ixs rfl rfl ‹_› rfl rfl (by omega) ?_)|(refine rd_eqa rfl rfl rfl he (by kernel_rfl) (.inr rfl) ?_)))<;>(conv=>whnf)))
      all_goals first
       |(exfalso;omega)
       |exact ps_val (v':= .bool false) rfl (hno hwE hp.chg)
  ·((conv=>whnf);repeat' ((first|((with_reducible apply br_id);(with_reducible refine br_dec (fun hx=>?_) (fun hx=>?_))<;>(try (exfalso;first|omega|contradiction)))|((with_reducible apply ld_id);apply ld_hs hp;(focus repeat' constructor);exact rfl)|((with_reducible apply gen_id);apply gen_len;exact rfl;exact rfl;assumption))<;>(conv=>whnf)))
   exact ps_val (v':= .bool true) rfl ⟨by rw [show (List.range l.l.length).all (winAt l.l)=true from allR_yes fun k hk=>hall k (by omega)],hp.chg⟩
 ·rw [decide_eq_false hd,Bool.false_and]
  have hht:=ht.toNat_lt
  refine calls_x (args:= [_]) tabOk Tryz.func35 Tryz.ntmps35 Tryz.results35 rfl (Nat.le_of_ble_eq_true rfl) ?_
  ((conv=>whnf);repeat' ((first|((with_reducible apply br_id);first|with_reducible refine br_t ?_|with_reducible refine br_f ?_|((with_reducible refine br_dec (fun hx=>?_) (fun hx=>?_))<;>(try (exfalso;first|omega|contradiction))))|((with_reducible apply ar_id);first|refine ar_i64 (by omega) ?_|refine ar_u64 (by omega) ?_)|((with_reducible apply ld_id);apply ld_hs hp;(focus repeat' constructor);exact rfl)|((with_reducible apply al_id);refine al_cel hp ?_;clear hp;intro bb w hp)|((with_reducible apply gen_id);apply gen_len;exact rfl;exact rfl;assumption))<;>(conv=>whnf)))
  all_goals first
   |(exfalso;omega)
   |exact ps_val (v':= .bool false) rfl ⟨rfl,hp.chg⟩
theorem rses31_any {B:Nat} {w0:World} {x:Sta} (hs:StaAt B w0 x) (hf:FewI x):Calls Tryz.prog 37 #[x.v] w0 fun e w'=>e= .returned (.bool (sesS x.next x.cfg.ses x.ses.l))∧Chg N0 w0 w':=by
 have hp:=Hp.start (S:=N0) w0
 have hB:∀b,N0 b→B≤b:=fun _ hh=>hh.elim
 have u1:=Tryz.underlying27
 have f1:=hf.ses
 unfold sesS
 refine calls_x (args:= [_]) tabOk Tryz.func37 Tryz.ntmps37 Tryz.results37 rfl (Nat.le_of_ble_eq_true rfl) ?_
 ((conv=>whnf);repeat' (((with_reducible apply al_id);refine al_cel hp ?_;clear hp;intro bb w hp)<;>(conv=>whnf)))
 obtain ⟨b1,hb1⟩:∃x,x=bb:=⟨_,rfl⟩
 subst hb1
 refine lp_inv (α:=Nat) (fun i=> [(1,ptr b1),(3,i64 i)]) (fun i w=>i≤x.ses.l.length∧(∀k,k < i→sesAt x.next x.ses.l k=true)∧Hp N0 w0 w [cel b1 31 x.c.toArray]) (fun i=>x.ses.l.length - i) 0 (by (repeat' (first|exact trivial|(refine ⟨rfl,?_⟩)))) ⟨by omega,fun k hk=>absurd hk (by omega),hp⟩ ?_
 clear hp
 rintro i e0 w ⟨hi,hall,hp⟩
 dsimp only at hi hall hp ⊢
 rcases Nat.lt_or_ge i x.ses.l.length with hlt|hge
 ·obtain ⟨b,o,y,hA,hbb,hrow,hyy⟩:=hs.ses.has hlt
  have hno:∀{w:World},sesAt x.next x.ses.l i=false→Chg N0 w0 w→Ending.returned (.bool false)= .returned (.bool ((List.range x.ses.l.length).all (sesAt x.next x.ses.l) && decide ((x.ses.l.length:Int)≤x.cfg.ses)))∧Chg N0 w0 w:=fun hn hc=>⟨by rw [show (List.range x.ses.l.length).all (sesAt x.next x.ses.l)=false from allR_no hlt hn,Bool.false_and],hc⟩
  cases i with
  |zero=>
   have hE:sesAt x.next x.ses.l 0=(decide (y.id.toNat < x.next.toNat) && (true && decide (1≤y.quota.toNat∧y.quota.toNat≤64∧y.used.toNat≤y.quota.toNat))):=by unfold sesAt;rw [hyy];rfl
   rw [Bool.true_and] at hE
   ((conv=>whnf);repeat' ((first|((with_reducible apply br_id);first|with_reducible refine br_t ?_|with_reducible refine br_f ?_|((with_reducible refine br_dec (fun hx=>?_) (fun hx=>?_))<;>(try (exfalso;first|omega|contradiction))))|((with_reducible apply ar_id);refine ar_i64 (by omega) ?_)|((with_reducible apply cn_id);refine cn rfl ?_)|((with_reducible apply ld_id);apply ld_hs hp;(focus repeat' constructor);exact rfl)|((with_reducible apply ldn_id);(refine ldn_rowx hp hB ‹_› ‹_› _ rfl ‹_› rfl ?_))|((with_reducible apply al_id);refine al_cel hp ?_;clear hp;intro bb w hp)|((with_reducible apply st_id);apply sta_hs hp;(focus repeat' constructor);exact rfl;exact rfl;clear hp;intro w hp;(try dsimp only [List.set] at hp))|((with_reducible apply gen_id);first|(refine gen_ixs rfl rfl ‹_› rfl rfl (by omega) ?_)|(apply gen_len;exact rfl;exact rfl;assumption))|((with_reducible apply dr_id);refine dr_auto tabOk (by kernel_rfl) (by decide+kernel) ?_;(try replace hp:=hp.drew)))<;>(conv=>whnf)))
   all_goals first
    |(refine ps_val (v':= .bool false) rfl (hno ?_ hp.chg)
      rw [hE,Bool.and_eq_false_iff,decide_eq_false_iff_not,decide_eq_false_iff_not]
      omega)
    |(refine lp_next (0+1) (by show x.ses.l.length - (0+1) < x.ses.l.length - 0;omega) (by (repeat' (first|exact trivial|(refine ⟨rfl,?_⟩)))) ⟨by show 0+1≤_;omega,all_step hall ?_,hp.tail⟩
      rw [hE,Bool.and_eq_true,decide_eq_true_eq,decide_eq_true_eq]
      omega)
  |succ k=>
   obtain ⟨z,hz⟩:∃z,x.ses.l[k]? =some z:=⟨_,List.getElem?_eq_getElem (by omega)⟩
   have hE:sesAt x.next x.ses.l (k+1)=(decide (y.id.toNat < x.next.toNat) && (decide (z.id.toNat < y.id.toNat) && decide (1≤y.quota.toNat∧y.quota.toNat≤64∧y.used.toNat≤y.quota.toNat))):=by unfold sesAt ascAt;rw [hyy];dsimp only;rw [hz]
   ((conv=>whnf);repeat' ((first|((with_reducible apply br_id);first|with_reducible refine br_t ?_|with_reducible refine br_f ?_|((with_reducible refine br_dec (fun hx=>?_) (fun hx=>?_))<;>(try (exfalso;first|omega|contradiction))))|((with_reducible apply ar_id);first|(refine ar_n (k) (by omega) (by omega) ?_)|refine ar_i64 (by omega) ?_)|((with_reducible apply cn_id);refine cn rfl ?_)|((with_reducible apply ld_id);first|(refine ld_row hp hB ‹_› ‹_› _ _ rfl ‹_› (by rfl) ?_)|(apply ld_hs hp;(focus repeat' constructor);exact rfl))|((with_reducible apply ldn_id);(refine ldn_rowx hp hB ‹_› ‹_› _ rfl ‹_› rfl ?_))|((with_reducible apply al_id);refine al_cel hp ?_;clear hp;intro bb w hp)|((with_reducible apply st_id);apply sta_hs hp;(focus repeat' constructor);exact rfl;exact rfl;clear hp;intro w hp;(try dsimp only [List.set] at hp))|((with_reducible apply gen_id);first|(refine gen_ixs rfl rfl ‹_› rfl rfl (by omega) ?_)|(apply gen_len;exact rfl;exact rfl;assumption))|((with_reducible apply dr_id);refine dr_auto tabOk (by kernel_rfl) (by decide+kernel) ?_;(try replace hp:=hp.drew))|((with_reducible apply rd_id);(refine rd_ixs rfl rfl ‹_› rfl rfl (by omega) ?_)))<;>(conv=>whnf)))
   all_goals first
    |(refine ps_val (v':= .bool false) rfl (hno ?_ hp.chg)
      rw [hE,Bool.and_eq_false_iff,Bool.and_eq_false_iff,decide_eq_false_iff_not,decide_eq_false_iff_not,decide_eq_false_iff_not]
      omega)
    |(refine lp_next (k+1+1) (by show x.ses.l.length - (k+1+1) < x.ses.l.length - (k+1);omega) (by (repeat' (first|exact trivial|(refine ⟨rfl,?_⟩)))) ⟨by show k+1+1≤_;omega,all_step hall ?_,hp.tail⟩
      rw [hE,Bool.and_eq_true,Bool.and_eq_true,decide_eq_true_eq,decide_eq_true_eq,decide_eq_true_eq]
      omega)
 ·rw [show (List.range x.ses.l.length).all (sesAt x.next x.ses.l)=true from allR_yes fun k hk=>hall k (by omega),Bool.true_and]
  ((conv=>whnf);repeat' ((first|((with_reducible apply br_id);(with_reducible refine br_dec (fun hx=>?_) (fun hx=>?_))<;>(try (exfalso;first|omega|contradiction)))|((with_reducible apply ld_id);apply ld_hs hp;(focus repeat' constructor);exact rfl)|((with_reducible apply gen_id);apply gen_len;exact rfl;exact rfl;assumption))<;>(conv=>whnf)))
  exact ps_val (v':= .bool (decide ((x.ses.l.length:Int)≤x.cfg.ses))) rfl ⟨rfl,hp.chg⟩
theorem rblobs31_any {B:Nat} {w0:World} {x:Sta} (hs:StaAt B w0 x) (hf:FewI x):Calls Tryz.prog 38 #[x.v] w0 fun e w'=>e= .returned (.bool (blobS x.ses.l (x.blobs.l.map Blob.p)))∧Chg N0 w0 w':=by
 have hp:=Hp.start (S:=N0) w0
 have hB:∀b,N0 b→B≤b:=fun _ hh=>hh.elim
 have u1:=Tryz.underlying27
 have u2:=Tryz.underlying28
 have u5:=Tryz.underlying34
 have f1:=hf.ses
 have f2:=hf.blobs
 have hle:=hs.blobs.row.le
 refine calls_x (args:= [_]) tabOk Tryz.func38 Tryz.ntmps38 Tryz.results38 rfl (Nat.le_of_ble_eq_true rfl) ?_
 ((conv=>whnf);repeat' (((with_reducible apply al_id);refine al_cel hp ?_;clear hp;intro bb w hp)<;>(conv=>whnf)))
 obtain ⟨b1,hb1⟩:∃x,x=bb:=⟨_,rfl⟩
 subst hb1
 refine lp_inv (α:=Nat) (fun i=> [(1,ptr b1),(3,i64 i)]) (fun i w=>i≤x.blobs.l.length∧(∀k,k < i→blobAt x.ses.l (x.blobs.l.map Blob.p) k=true)∧Hp N0 w0 w [cel b1 31 x.c.toArray]) (fun i=>x.blobs.l.length - i) 0 (by (repeat' (first|exact trivial|(refine ⟨rfl,?_⟩)))) ⟨by omega,fun k hk=>absurd hk (by omega),hp⟩ ?_
 clear hp
 rintro i e0 w ⟨hi,hall,hp⟩
 dsimp only at hi hall hp ⊢
 rcases Nat.lt_or_ge i x.blobs.l.length with hlt|hge
 ·obtain ⟨b,o,y,hA,hbb,hrow,hyy⟩:=hs.blobs.row.has hlt
  have hmem:=List.mem_of_getElem? hyy
  have hyd:=hf.data y hmem
  have hyp:(x.blobs.l.map Blob.p)[i]? =some y.p:=by rw [List.getElem?_map,hyy];rfl
  have hba:blobAt x.ses.l (x.blobs.l.map Blob.p) i=(useOk y.key.seq (byId x.ses.l y.key.ses) && decide (addE ((x.blobs.l.map Blob.p).take i) y.p=0)):=by unfold blobAt;rw [hyp];rfl
  have hno:∀{w:World},blobAt x.ses.l (x.blobs.l.map Blob.p) i=false→Chg N0 w0 w→Ending.returned (.bool false)= .returned (.bool (blobS x.ses.l (x.blobs.l.map Blob.p)))∧Chg N0 w0 w:=fun hn hc=>⟨by rw [show blobS x.ses.l (x.blobs.l.map Blob.p)=false from allR_no (by rw [List.length_map];exact hlt) hn],hc⟩
  obtain ⟨m,hm⟩:∃m,fndV (x.blobs.l.take i) y.key=m:=⟨_,rfl⟩
  have hfb:∀{w:World},Chg N0 w0 w→Calls Tryz.prog 94 #[(x.blobs.cut 19 0 i).v,y.key.v] w fun e w'=>e= .returned (i64 m)∧Chg N0 w w':=fun hc=>by
   have:=rfind25_any ((hs.blobs.row.cut (lo:=0) (hi:=i) (by omega) (by omega)).keep hc hB) y.key
   rw [take_cut,hm] at this
   exact this
  have hmm:0≤m↔y.p.key∈((x.blobs.l.map Blob.p).take i).map (·.key):=by
   rw [←hm,←List.map_take]
   have:=fnd_mem (x.blobs.l.take i) y.key
   unfold fndV
   cases hk:fndK (x.blobs.l.take i) y.key with
   |none=>
    rw [hk] at this
    have h2:=of_decide_eq_false this.symm
    exact ⟨fun h=>by dsimp only at h;omega,fun h=>(h2 h).elim⟩
   |some j=>
    rw [hk] at this
    have h2:=of_decide_eq_true this.symm
    exact ⟨fun _=>h2,fun _=>Int.natCast_nonneg _⟩
  have hE:∀{b:Bool},decide (addE ((x.blobs.l.map Blob.p).take i) y.p=0)=b→b=decide (y.data.l.length≤600∧¬0≤m):=fun {b} hb=>by
   rw [←hb]
   unfold addE
   by_cases h6:600 < y.p.bytes.length
   ·have h6':600 < y.data.l.length:=h6
    rw [if_pos h6,decide_eq_false (by omega),decide_eq_false (by omega)]
   ·have h6':¬600 < y.data.l.length:=h6
    rw [if_neg h6]
    by_cases hk:y.p.key∈((x.blobs.l.map Blob.p).take i).map (·.key)
    ·rw [if_pos hk,decide_eq_false (by omega),decide_eq_false (fun hh=>hh.2 (hmm.2 hk))]
    ·rw [if_neg hk,decide_eq_true (by omega),decide_eq_true ⟨by omega,fun hh=>hk (hmm.1 hh)⟩]
  have hba:=hba.trans (congrArg (useOk y.key.seq (byId x.ses.l y.key.ses) && ·) (hE rfl))
  have hsn:∀{w:World},Chg N0 w0 w→Calls Tryz.prog 93 #[x.ses.v,u32 y.key.ses] w fun e w'=>e= .returned (i64 (fndI x.ses.l y.key.ses))∧Chg N0 w w':=fun hc=>rfind23_any (hs.ses.keep hc hB) y.key.ses (by omega)
  rcases fnd_cases x.ses.l y.key.ses with ⟨n,z,hz,hzi,hzn,hby,hfi⟩|⟨_,hby,hfi⟩
  ·have hzl:=(List.getElem?_eq_some_iff.1 hz).1
   obtain ⟨bz,oz,z',hAz,hbz,hroz,hz'⟩:=hs.ses.has hzl
   obtain rfl:z'=z:=Option.some.inj (hz'.symm.trans hz)
   rw [hby] at hba
   rw [hfi] at hsn
   have hba:blobAt x.ses.l (x.blobs.l.map Blob.p) i=(decide (y.key.seq.toNat < z'.used.toNat) && decide (y.data.l.length≤600∧¬0≤m)):=hba
   ((conv=>whnf);repeat' ((first|((with_reducible apply br_id);(with_reducible refine br_dec (fun hx=>?_) (fun hx=>?_))<;>(try (exfalso;first|omega|contradiction)))|((with_reducible apply cn_id);refine cn rfl ?_)|((with_reducible apply ld_id);apply ld_hs hp;(focus repeat' constructor);exact rfl)|((with_reducible apply ldn_id);(refine ldn_rowx hp hB ‹_› ‹_› _ rfl ‹_› rfl ?_))|((with_reducible apply al_id);refine al_cel hp ?_;clear hp;intro bb w hp)|((with_reducible apply st_id);apply sta_hs hp;(focus repeat' constructor);exact rfl;exact rfl;clear hp;intro w hp;(try dsimp only [List.set] at hp))|((with_reducible apply gen_id);first|(refine gen_ixs rfl rfl ‹_› rfl rfl (by omega) ?_)|(apply gen_len;exact rfl;exact rfl;assumption))|((with_reducible apply cl_id);(refine cl_eq ((hsn hp.chg)) rfl rfl ?_;rintro e w ⟨rfl,hcc⟩;replace hp:=hp.call0 hcc;refine ⟨_,rfl,?_⟩)))<;>(conv=>whnf)))
   refine dr_autos [] 1000 tabOk (by kernel_rfl) (by decide+kernel) ?_
   replace hp:=hp.drew
   ((conv=>whnf);repeat' ((first|((with_reducible apply br_id);first|with_reducible refine br_t ?_|with_reducible refine br_f ?_|((with_reducible refine br_dec (fun hx=>?_) (fun hx=>?_))<;>(try (exfalso;first|omega|contradiction))))|((with_reducible apply ar_id);refine ar_i64 (by omega) ?_)|((with_reducible apply cn_id);refine cn ‹_› ?_)|((with_reducible apply ld_id);first|(refine ld_row hp hB ‹_› ‹_› _ _ rfl ‹_› (by rfl) ?_)|(apply ld_hs hp;(focus repeat' constructor);exact rfl))|((with_reducible apply gen_id);apply gen_build;exact rfl;exact rfl)|((with_reducible apply cl_id);(refine cl_eq ((hfb hp.chg)) rfl rfl ?_;rintro e w ⟨rfl,hcc⟩;replace hp:=hp.call0 hcc;refine ⟨_,rfl,?_⟩))|((with_reducible apply rd_id);first|(refine rd_ixs rfl rfl ‹_› rfl rfl (by omega) ?_)|(refine rd_cuth rfl el_blob x.blobs rfl hle rfl (h:=i) rfl (by omega) ?_)|(apply rd_len;exact rfl;exact rfl;assumption)))<;>(conv=>whnf)))
   all_goals first
    |(refine ps_val (v':= .bool false) rfl (hno ?_ hp.chg)
      rw [hba,Bool.and_eq_false_iff,decide_eq_false_iff_not,decide_eq_false_iff_not]
      omega)
    |(refine lp_next (i+1) (by show x.blobs.l.length - (i+1) < x.blobs.l.length - i;omega) (by (repeat' (first|exact trivial|(refine ⟨rfl,?_⟩)))) ⟨by show i+1≤_;omega,all_step hall ?_,hp.tail⟩
      rw [hba,Bool.and_eq_true,decide_eq_true_eq,decide_eq_true_eq]
      omega)
  ·rw [hby] at hba
   rw [hfi] at hsn
   have hba:blobAt x.ses.l (x.blobs.l.map Blob.p) i=false:=hba
   ((conv=>whnf);repeat' ((first|((with_reducible apply br_id);(with_reducible refine br_dec (fun hx=>?_) (fun hx=>?_))<;>(try (exfalso;first|omega|contradiction)))|((with_reducible apply cn_id);refine cn rfl ?_)|((with_reducible apply ld_id);apply ld_hs hp;(focus repeat' constructor);exact rfl)|((with_reducible apply ldn_id);(refine ldn_rowx hp hB ‹_› ‹_› _ rfl ‹_› rfl ?_))|((with_reducible apply al_id);refine al_cel hp ?_;clear hp;intro bb w hp)|((with_reducible apply st_id);apply sta_hs hp;(focus repeat' constructor);exact rfl;exact rfl;clear hp;intro w hp;(try dsimp only [List.set] at hp))|((with_reducible apply gen_id);first|(refine gen_ixs rfl rfl ‹_› rfl rfl (by omega) ?_)|(apply gen_len;exact rfl;exact rfl;assumption))|((with_reducible apply cl_id);(refine cl_eq ((hsn hp.chg)) rfl rfl ?_;rintro e w ⟨rfl,hcc⟩;replace hp:=hp.call0 hcc;refine ⟨_,rfl,?_⟩)))<;>(conv=>whnf)))
   refine dr_autos [] 1000 tabOk (by kernel_rfl) (by decide+kernel) ?_
   replace hp:=hp.drew
   ((conv=>whnf);repeat' (((with_reducible apply br_id);first|with_reducible refine br_t ?_|((with_reducible refine br_dec (fun hx=>?_) (fun hx=>?_))<;>(try (exfalso;first|omega|contradiction))))<;>(conv=>whnf)))
   all_goals exact ps_val (v':= .bool false) rfl (hno hba hp.chg)
 ·((conv=>whnf);repeat' ((first|((with_reducible apply br_id);(with_reducible refine br_dec (fun hx=>?_) (fun hx=>?_))<;>(try (exfalso;first|omega|contradiction)))|((with_reducible apply ld_id);apply ld_hs hp;(focus repeat' constructor);exact rfl)|((with_reducible apply gen_id);apply gen_len;exact rfl;exact rfl;assumption))<;>(conv=>whnf)))
  exact ps_val (v':= .bool true) rfl ⟨by rw [show blobS x.ses.l (x.blobs.l.map Blob.p)=true from allR_yes fun k hk=>hall k (by rw [List.length_map] at hk;omega)],hp.chg⟩
end Go.Proofs.YtpbapnlnheahnaaGreatDoor
