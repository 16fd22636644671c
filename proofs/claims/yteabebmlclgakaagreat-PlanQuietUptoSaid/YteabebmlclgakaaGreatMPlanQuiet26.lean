/- MPlanQuiet26: StaFew, Book1, Book2. -/
import Derived.Test.YteabebmlclgakaaGreatMPlanQuiet7
import Derived.Test.YteabebmlclgakaaGreatMPlanQuiet11
import Derived.Test.YteabebmlclgakaaGreatMPlanQuiet25
import Derived.Test.YteabebmlclgakaaGreatMPlanQuiet13
set_option linter.unusedSimpArgs false
set_option linter.unusedVariables false
/- StaFew: how much there is of a state. Of states of a bounded bulk. -/
namespace Go.Proofs.YteabebmlclgakaaGreat
open Go.RowKit
set_option maxRecDepth 100000
set_option maxHeartbeats 2000000
def blN (b:Blob):Nat:=10+b.data.l.length
def wiN (b:Blk):Nat:=10+b.tx.l.length
def fewN (x:Sta):Nat:=x.ses.l.length+(x.blobs.l.map blN).sum+(x.win.l.map wiN).sum+10*x.jobs.l.length
def fewS (x:Sta):Bool:=x.jobs.l.all (fun j=>fewP j.pay) && decide (fewN x≤6000)
theorem sum_step {α:Type} {l:List α} {i:Nat} {x:α} (f:α→Nat) (h:l[i]? =some x):((l.take (i+1)).map f).sum=((l.take i).map f).sum+f x:=by
 rw [List.take_add_one,h]
 simp
theorem sum_len {α:Type} {f:α→Nat} {M:Nat}:∀{l:List α},(∀x∈l,f x≤M)→(l.map f).sum≤l.length*M
 | [],_=>by simp
 |x::l,h=>by
  have h1:=h x (by simp)
  have h2:=sum_len (l:=l) fun y hy=>h y (by simp [hy])
  rw [List.map_cons,List.sum_cons,List.length_cons,Nat.succ_mul]
  omega
theorem sum_mem {α:Type} {f:α→Nat}:∀{l:List α} {x:α},x∈l→f x≤(l.map f).sum
 |y::l,x,h=>by
  rw [List.map_cons,List.sum_cons]
  rcases List.mem_cons.1 h with rfl|h
  ·omega
  ·have:=sum_mem (f:=f) h
   omega
theorem sum_ge {α:Type} {f:α→Nat} {m:Nat}:∀{l:List α},(∀x∈l,m≤f x)→l.length*m≤(l.map f).sum
 | [],_=>by simp
 |x::l,h=>by
  have h1:=h x (by simp)
  have h2:=sum_ge (l:=l) fun y hy=>h y (by simp [hy])
  rw [List.map_cons,List.sum_cons,List.length_cons,Nat.succ_mul]
  omega
structure FewI (x:Sta):Prop where
 ses:x.ses.l.length≤6000
 blobs:x.blobs.l.length≤600
 win:x.win.l.length≤600
 jobs:x.jobs.l.length≤600
 data:∀b∈x.blobs.l,b.data.l.length≤6000
 tx:∀b∈x.win.l,b.tx.l.length≤6000
 pay:∀j∈x.jobs.l,fewP j.pay=true
theorem fewS_at {x:Sta} (h:fewS x=true):FewI x:=by
 unfold fewS at h
 rw [Bool.and_eq_true,List.all_eq_true,decide_eq_true_eq] at h
 obtain ⟨h1,h2⟩:=h
 unfold fewN at h2
 have h3:=sum_ge (f:=blN) (m:=10) (l:=x.blobs.l) fun y _=>Nat.le_add_right _ _
 have h4:=sum_ge (f:=wiN) (m:=10) (l:=x.win.l) fun y _=>Nat.le_add_right _ _
 refine ⟨by omega,by omega,by omega,by omega,fun b hb=>?_,fun b hb=>?_,h1⟩
 ·have:=sum_mem (f:=blN) hb
  have e:blN b=10+b.data.l.length:=rfl
  omega
 ·have:=sum_mem (f:=wiN) hb
  have e:wiN b=10+b.tx.l.length:=rfl
  omega
theorem few31_any {B:Nat} {w0:World} {x:Sta} (h:StaAt B w0 x) (hb:StaB 1048576 x):Calls Tryz.prog 9 #[x.v] w0 fun e w'=>e= .returned (.bool (fewS x))∧Chg N0 w0 w':=by
 have hp:=Hp.start (S:=N0) w0
 have hB:∀b,N0 b→B≤b:=fun _ hh=>hh.elim
 have u1:=Tryz.underlying27
 have u2:=Tryz.underlying28
 have u3:=Tryz.underlying26
 have u4:=Tryz.underlying29
 have u5:=Tryz.underlying38
 have u6:=Tryz.underlying52
 have hs1:=hb.ses
 have hs2:=hb.blobs
 have hs3:=hb.win
 have hs4:=hb.jobs
 have ht1:∀i,((x.blobs.l.take i).map blN).sum≤1048576*1048586:=fun i=>by
  refine Nat.le_trans (sum_len (M:=1048586) fun y hy=>?_) (Nat.mul_le_mul_right _ (Nat.le_trans (List.length_take_le' ..) hs2))
  have:=hb.data y (List.mem_of_mem_take hy)
  unfold blN
  omega
 have ht2:∀i,((x.win.l.take i).map wiN).sum≤1048576*1048586:=fun i=>by
  refine Nat.le_trans (sum_len (M:=1048586) fun y hy=>?_) (Nat.mul_le_mul_right _ (Nat.le_trans (List.length_take_le' ..) hs3))
  have:=hb.tx y (List.mem_of_mem_take hy)
  unfold wiN
  omega
 obtain ⟨N1,hN1⟩:∃n,(x.blobs.l.map blN).sum=n:=⟨_,rfl⟩
 obtain ⟨N2,hN2⟩:∃n,(x.win.l.map wiN).sum=n:=⟨_,rfl⟩
 have hN1b:N1≤1048576*1048586:=by have:=ht1 x.blobs.l.length;rw [List.take_length,hN1] at this;exact this
 have hN2b:N2≤1048576*1048586:=by have:=ht2 x.win.l.length;rw [List.take_length,hN2] at this;exact this
 refine calls_x (args:= [_]) tabOk Tryz.func9 Tryz.ntmps9 Tryz.results9 rfl (Nat.le_of_ble_eq_true rfl) ?_
 ((conv=>whnf);repeat' ((first|((with_reducible refine ld_id ?_);(apply ld_hs hp;(focus repeat' constructor);exact rfl))|((with_reducible refine al_id ?_);(refine al_cel hp ?_;clear hp;intro bb w hp))|((with_reducible refine gen_id ?_);(apply gen_len;exact rfl;exact rfl;assumption)))<;>(conv=>whnf)))
 refine lp_inv (α:=Nat) (fun i=> [(1,ptr bb),(3,i64 (x.ses.l.length+((x.blobs.l.take i).map blN).sum:Nat)),(4,i64 i)]) (fun i w=>i≤x.blobs.l.length∧Hp N0 w0 w [cel bb 31 x.c.toArray]) (fun i=>x.blobs.l.length - i) 0 (by (repeat' (first|exact trivial|(refine ⟨rfl,?_⟩)))) ⟨by omega,hp⟩ ?_
 clear hp
 rintro i e0 w ⟨hi,hp⟩
 dsimp only at hi hp ⊢
 have hn:=ht1 i
 rcases Nat.lt_or_ge i x.blobs.l.length with hlt|hge
 ·obtain ⟨b,o,y,hA,hbb,hrow,hyy⟩:=h.blobs.row.has hlt
  have hy:=hb.data y (List.mem_of_getElem? hyy)
  have hst:=sum_step blN hyy
  have hd:blN y=10+y.data.l.length:=rfl
  generalize ((x.blobs.l.take i).map blN).sum=n at hn hst ⊢
  ((conv=>whnf);repeat' ((first|((with_reducible refine br_id ?_);((with_reducible refine br_dec (fun hx=>?_) (fun hx=>?_))<;>(try (exfalso;first|omega|contradiction))))|((with_reducible refine ar_id ?_);first|((refine ar_n ((x.ses.l.length+n+10+y.data.l.length)) (by omega) (by omega) ?_))|((refine ar_n ((x.ses.l.length+n+10)) (by omega) (by omega) ?_))|(refine ar_i64 (by omega) ?_))|((with_reducible refine ld_id ?_);first|((refine ld_row hp hB ‹_› ‹_› _ _ rfl ‹_› (by rfl) ?_))|(apply ld_hs hp;(focus repeat' constructor);exact rfl))|((with_reducible refine gen_id ?_);first|((refine gen_ixs rfl rfl ‹_› rfl rfl (by omega) ?_))|(apply gen_len;exact rfl;exact rfl;assumption)))<;>(conv=>whnf)))
  exact lp_next (i+1) (by show x.blobs.l.length - (i+1) < x.blobs.l.length - i;omega) ⟨rfl,by show i64 _=i64 _;rw [hst,hd];congr 1;omega,rfl,trivial⟩ ⟨by show i+1≤_;omega,hp⟩
 rw [List.take_of_length_le hge,hN1]
 clear hn
 ((conv=>whnf);repeat' ((first|((with_reducible refine br_id ?_);((with_reducible refine br_dec (fun hx=>?_) (fun hx=>?_))<;>(try (exfalso;first|omega|contradiction))))|((with_reducible refine ld_id ?_);(apply ld_hs hp;(focus repeat' constructor);exact rfl))|((with_reducible refine gen_id ?_);(apply gen_len;exact rfl;exact rfl;assumption)))<;>(conv=>whnf)))
 refine lp_inv (α:=Nat) (fun i=> [(1,ptr bb),(3,i64 (x.ses.l.length+N1+((x.win.l.take i).map wiN).sum:Nat)),(5,i64 i)]) (fun i w=>i≤x.win.l.length∧Hp N0 w0 w [cel bb 31 x.c.toArray]) (fun i=>x.win.l.length - i) 0 (by (repeat' (first|exact trivial|(refine ⟨rfl,?_⟩)))) ⟨by omega,hp⟩ ?_
 clear hp hi hge
 rintro i e0 w ⟨hi,hp⟩
 dsimp only at hi hp ⊢
 have hn:=ht2 i
 rcases Nat.lt_or_ge i x.win.l.length with hlt|hge
 ·obtain ⟨b,o,y,hA,hbb,hrow,hyy⟩:=h.win.has hlt
  have hy:=hb.tx y (List.mem_of_getElem? hyy)
  have hst:=sum_step wiN hyy
  have hd:wiN y=10+y.tx.l.length:=rfl
  generalize ((x.win.l.take i).map wiN).sum=n at hn hst ⊢
  ((conv=>whnf);repeat' ((first|((with_reducible refine br_id ?_);((with_reducible refine br_dec (fun hx=>?_) (fun hx=>?_))<;>(try (exfalso;first|omega|contradiction))))|((with_reducible refine ar_id ?_);first|((refine ar_n ((x.ses.l.length+N1+n+10+y.tx.l.length)) (by omega) (by omega) ?_))|((refine ar_n ((x.ses.l.length+N1+n+10)) (by omega) (by omega) ?_))|(refine ar_i64 (by omega) ?_))|((with_reducible refine ld_id ?_);first|((refine ld_row hp hB ‹_› ‹_› _ _ rfl ‹_› (by rfl) ?_))|(apply ld_hs hp;(focus repeat' constructor);exact rfl))|((with_reducible refine gen_id ?_);first|((refine gen_ixs rfl rfl ‹_› rfl rfl (by omega) ?_))|(apply gen_len;exact rfl;exact rfl;assumption)))<;>(conv=>whnf)))
  exact lp_next (i+1) (by show x.win.l.length - (i+1) < x.win.l.length - i;omega) ⟨rfl,by show i64 _=i64 _;rw [hst,hd];congr 1;omega,rfl,trivial⟩ ⟨by show i+1≤_;omega,hp⟩
 rw [List.take_of_length_le hge,hN2]
 clear hn
 ((conv=>whnf);repeat' ((first|((with_reducible refine br_id ?_);((with_reducible refine br_dec (fun hx=>?_) (fun hx=>?_))<;>(try (exfalso;first|omega|contradiction))))|((with_reducible refine ld_id ?_);(apply ld_hs hp;(focus repeat' constructor);exact rfl))|((with_reducible refine gen_id ?_);(apply gen_len;exact rfl;exact rfl;assumption)))<;>(conv=>whnf)))
 refine lp_inv (α:=Nat) (fun i=> [(1,ptr bb),(3,i64 (x.ses.l.length+N1+N2+10*i:Nat)),(6,i64 i)]) (fun i w=>i≤x.jobs.l.length∧(∀j∈x.jobs.l.take i,fewP j.pay=true)∧Hp N0 w0 w [cel bb 31 x.c.toArray]) (fun i=>x.jobs.l.length - i) 0 (by (repeat' (first|exact trivial|(refine ⟨rfl,?_⟩)))) ⟨by omega,by simp,hp⟩ ?_
 clear hp hi hge
 rintro i e0 w ⟨hi,hall,hp⟩
 dsimp only at hi hall hp ⊢
 rcases Nat.lt_or_ge i x.jobs.l.length with hlt|hge
 ·obtain ⟨b,o,y,hA,hbb,hrow,hyy⟩:=h.jobs.has hlt
  have hmem:=List.mem_of_getElem? hyy
  have hpy:=h.pay y hmem
  have hpl:((Job.c y).drop 37).take 1= [y.pay.v]:=rfl
  obtain ⟨q,hq⟩:∃q,fewP y.pay=q:=⟨_,rfl⟩
  have hf:∀{w:World},Chg N0 w0 w→Calls Tryz.prog 42 #[y.pay.pv] w fun e w'=>e= .returned (.bool q)∧Chg N0 w w':=fun hc=>by rw [←hq];exact few13_any (hpy.keep hc hB)
  cases q with
  |false=>
   ((conv=>whnf);repeat' ((first|((with_reducible refine br_id ?_);first|(with_reducible refine br_f ?_)|(with_reducible refine br_not ?_)|((with_reducible refine br_dec (fun hx=>?_) (fun hx=>?_))<;>(try (exfalso;first|omega|contradiction))))|((with_reducible refine ld_id ?_);(apply ld_hs hp;(focus repeat' constructor);exact rfl))|((with_reducible refine ldn_id ?_);((refine ldn_row hp hB ‹_› ‹_› _ _ rfl ‹_› (by rfl) (by rfl) ?_)))|((with_reducible refine gen_id ?_);first|((refine gen_ixs rfl rfl ‹_› rfl rfl (by omega) ?_))|(apply gen_len;exact rfl;exact rfl;assumption))|((with_reducible refine cl_id ?_);((refine cl_eq ((hf hp.chg)) rfl rfl ?_;rintro e w ⟨rfl,hcc⟩;replace hp:=hp.call0 hcc;refine ⟨_,rfl,?_⟩))))<;>(conv=>whnf)))
   refine ps_val (v':= .bool false) rfl ⟨?_,hp.chg⟩
   have:fewS x=false:=by
    unfold fewS
    rw [Bool.and_eq_false_iff]
    exact .inl (List.all_eq_false.2 ⟨y,hmem,by rw [hq];simp⟩)
   rw [this]
  |true=>
   ((conv=>whnf);repeat' ((first|((with_reducible refine br_id ?_);first|(with_reducible refine br_t ?_)|(with_reducible refine br_not ?_)|((with_reducible refine br_dec (fun hx=>?_) (fun hx=>?_))<;>(try (exfalso;first|omega|contradiction))))|((with_reducible refine ar_id ?_);first|((refine ar_n ((x.ses.l.length+N1+N2+10*(i+1))) (by omega) (by omega) ?_))|(refine ar_i64 (by omega) ?_))|((with_reducible refine ld_id ?_);(apply ld_hs hp;(focus repeat' constructor);exact rfl))|((with_reducible refine ldn_id ?_);((refine ldn_row hp hB ‹_› ‹_› _ _ rfl ‹_› (by rfl) (by rfl) ?_)))|((with_reducible refine gen_id ?_);first|((refine gen_ixs rfl rfl ‹_› rfl rfl (by omega) ?_))|(apply gen_len;exact rfl;exact rfl;assumption))|((with_reducible refine cl_id ?_);((refine cl_eq ((hf hp.chg)) rfl rfl ?_;rintro e w ⟨rfl,hcc⟩;replace hp:=hp.call0 hcc;refine ⟨_,rfl,?_⟩))))<;>(conv=>whnf)))
   refine lp_next (i+1) (by show x.jobs.l.length - (i+1) < x.jobs.l.length - i;omega) (by (repeat' (first|exact trivial|(refine ⟨rfl,?_⟩)))) ⟨by show i+1≤_;omega,fun j hj=>?_,hp⟩
   rw [List.take_add_one,hyy] at hj
   rcases List.mem_append.1 hj with hj|hj
   ·exact hall j hj
   ·simp at hj
    subst hj
    exact hq
 ·rw [List.take_of_length_le hge] at hall
  have:i=x.jobs.l.length:=by omega
  subst this
  ((conv=>whnf);repeat' ((first|((with_reducible refine br_id ?_);((with_reducible refine br_dec (fun hx=>?_) (fun hx=>?_))<;>(try (exfalso;first|omega|contradiction))))|((with_reducible refine ld_id ?_);(apply ld_hs hp;(focus repeat' constructor);exact rfl))|((with_reducible refine gen_id ?_);(apply gen_len;exact rfl;exact rfl;assumption)))<;>(conv=>whnf)))
  refine ps_val (v':= .bool (decide (((x.ses.l.length+N1+N2+10*x.jobs.l.length:Nat):Int)≤6000))) rfl ⟨?_,hp.chg⟩
  have:fewS x=decide (((x.ses.l.length+N1+N2+10*x.jobs.l.length:Nat):Int)≤6000):=by
   unfold fewS
   rw [List.all_eq_true.2 hall,Bool.true_and]
   refine decide_eq_decide.2 ?_
   unfold fewN
   rw [hN1,hN2]
   omega
  rw [this]
end Go.Proofs.YteabebmlclgakaaGreat
/- Book1: package book: Sound, halts; how sessions and blobs are loaded. Of states that are few. -/
namespace Go.Proofs.YteabebmlclgakaaGreat
open Go.RowKit
set_option maxRecDepth 100000
set_option maxHeartbeats 4000000
theorem bin_any (w0:World) (n m:Int):Calls Tryz.prog 103 #[i64 n,i64 m] w0 fun e w'=>e= .returned (.bool (decide (1≤n∧n≤m)))∧Chg N0 w0 w':=by
 have hp:=Hp.start (S:=N0) w0
 by_cases h1:1≤n
 ·refine calls_x (args:= [_,_]) tabOk Tryz.func103 Tryz.ntmps103 Tryz.results103 rfl (Nat.le_of_ble_eq_true rfl) ?_
  ((conv=>whnf);repeat' (((with_reducible refine br_id ?_);first|(with_reducible refine br_t ?_)|((with_reducible refine br_dec (fun hx=>?_) (fun hx=>?_))<;>(try (exfalso;first|omega|contradiction))))<;>(conv=>whnf)))
  all_goals exact ps_val (v':= .bool (decide (n≤m))) rfl ⟨congrArg (fun b=>Ending.returned (.bool b)) (decide_eq_decide.2 (by omega)),hp.chg⟩
 ·refine calls_x (args:= [_,_]) tabOk Tryz.func103 Tryz.ntmps103 Tryz.results103 rfl (Nat.le_of_ble_eq_true rfl) ?_
  ((conv=>whnf);repeat' (((with_reducible refine br_id ?_);first|(with_reducible refine br_f ?_)|((with_reducible refine br_dec (fun hx=>?_) (fun hx=>?_))<;>(try (exfalso;first|omega|contradiction))))<;>(conv=>whnf)))
  all_goals exact ps_val (v':= .bool false) rfl ⟨congrArg (fun b=>Ending.returned (.bool b)) (decide_eq_false (by omega)).symm,hp.chg⟩
theorem halts_any (w0:World) (e:Int):Calls Tryz.prog 60 #[i64 e] w0 fun r w'=>r= .returned (.bool (haltE e))∧Chg N0 w0 w':=by
 have hp:=Hp.start (S:=N0) w0
 refine calls_x (args:= [_]) tabOk Tryz.func60 Tryz.ntmps60 Tryz.results60 rfl (Nat.le_of_ble_eq_true rfl) ?_
 ((conv=>whnf);repeat' (((with_reducible refine br_id ?_);first|(with_reducible refine br_t ?_)|((with_reducible refine br_eq (fun hx=>?_) (fun hx=>?_))<;>(try (exfalso;first|omega|contradiction))))<;>(conv=>whnf)))
 all_goals first
  |exact ps_val (v':= .bool true) rfl ⟨by rw [show haltE e=true from decide_eq_true (by omega)],hp.chg⟩
  |exact ps_val (v':= .bool false) rfl ⟨by rw [show haltE e=false from decide_eq_false (by omega)],hp.chg⟩
theorem sound_any (w0:World) (c:Cfg):Calls Tryz.prog 59 #[c.v] w0 fun e w'=>e= .returned (.bool (soundC c))∧Chg N0 w0 w':=by
 have hp:=Hp.start (S:=N0) w0
 obtain ⟨q1,h1⟩:∃q,decide (1≤c.dep∧c.dep≤16)=q:=⟨_,rfl⟩
 obtain ⟨q2,h2⟩:∃q,decide (1≤c.stp∧c.stp≤1000)=q:=⟨_,rfl⟩
 obtain ⟨q3,h3⟩:∃q,decide (1≤c.kep∧c.kep≤65535)=q:=⟨_,rfl⟩
 obtain ⟨q4,h4⟩:∃q,decide (1≤c.ses∧c.ses≤64)=q:=⟨_,rfl⟩
 obtain ⟨q5,h5⟩:∃q,decide (1≤c.cap∧c.cap≤65536)=q:=⟨_,rfl⟩
 obtain ⟨q6,h6⟩:∃q,decide (1≤c.com∧c.com≤65536)=q:=⟨_,rfl⟩
 have hS:soundC c=(q1 && (q2 && (q3 && (q4 && (q5 && q6))))):=by
  unfold soundC
  rw [←h1,←h2,←h3,←h4,←h5,←h6,Bool.eq_iff_iff]
  simp only [decide_eq_true_eq,Bool.and_eq_true]
 have c1:=fun w=>bin_any w c.dep 16
 have c2:=fun w=>bin_any w c.stp 1000
 have c3:=fun w=>bin_any w c.kep 65535
 have c4:=fun w=>bin_any w c.ses 64
 have c5:=fun w=>bin_any w c.cap 65536
 have c6:=fun w=>bin_any w c.com 65536
 rw [h1] at c1
 rw [h2] at c2
 rw [h3] at c3
 rw [h4] at c4
 rw [h5] at c5
 rw [h6] at c6
 rw [hS]
 clear hS h1 h2 h3 h4 h5 h6
 refine calls_x (args:= [_]) tabOk Tryz.func59 Tryz.ntmps59 Tryz.results59 rfl (Nat.le_of_ble_eq_true rfl) ?_
 ((conv=>whnf);repeat' ((first|((with_reducible refine br_id ?_);first|(with_reducible refine br_t ?_)|(with_reducible refine br_f ?_)|((with_reducible refine br_s (fun hx=>?_) (fun hx=>?_))<;>(try (exfalso;first|omega|contradiction))))|((with_reducible refine ld_id ?_);(apply ld_hs hp;(focus repeat' constructor);exact rfl))|((with_reducible refine al_id ?_);(refine al_cel hp ?_;clear hp;intro bb w hp))|((with_reducible refine cl_id ?_);first|((refine cl_eq ((c1 _)) rfl rfl ?_;rintro e w ⟨rfl,hcc⟩;replace hp:=hp.call0 hcc;refine ⟨_,rfl,?_⟩))|((refine cl_eq ((c2 _)) rfl rfl ?_;rintro e w ⟨rfl,hcc⟩;replace hp:=hp.call0 hcc;refine ⟨_,rfl,?_⟩))|((refine cl_eq ((c3 _)) rfl rfl ?_;rintro e w ⟨rfl,hcc⟩;replace hp:=hp.call0 hcc;refine ⟨_,rfl,?_⟩))|((refine cl_eq ((c4 _)) rfl rfl ?_;rintro e w ⟨rfl,hcc⟩;replace hp:=hp.call0 hcc;refine ⟨_,rfl,?_⟩))|((refine cl_eq ((c5 _)) rfl rfl ?_;rintro e w ⟨rfl,hcc⟩;replace hp:=hp.call0 hcc;refine ⟨_,rfl,?_⟩))|((refine cl_eq ((c6 _)) rfl rfl ?_;rintro e w ⟨rfl,hcc⟩;replace hp:=hp.call0 hcc;refine ⟨_,rfl,?_⟩))))<;>(conv=>whnf)))
 all_goals first
  |exact ps_val (v':= .bool q6) rfl ⟨by simp_all,hp.chg⟩
  |exact ps_val (v':= .bool false) rfl ⟨by simp_all,hp.chg⟩
end Go.Proofs.YteabebmlclgakaaGreat
/- Book2: package book: how sessions and blobs are loaded. Of states that are few. -/
namespace Go.Proofs.YteabebmlclgakaaGreat
open Go.RowKit
set_option maxRecDepth 100000
set_option maxHeartbeats 4000000
structure Bk where
 cfg:Cfg
 halt:Int
 next:UInt32
 bc:Nat
 bn:Nat
 bs:Nat
 bh:Nat
 bj:Nat
abbrev Bk.c (x:Bk):List Value:=(i64 x.cfg.dep::i64 x.cfg.stp::i64 x.cfg.kep::i64 x.cfg.ses::i64 x.cfg.cap::i64 x.cfg.com::i64 x.halt::u32 x.next::ptr x.bc::ptr x.bn::ptr x.bs::ptr x.bh::ptr x.bj:: [])
abbrev bkR (b:Nat) (x:Bk):Res:=cel b 121 x.c.toArray
theorem out_lt {α:Type} {D:Nat→Prop} {B:Nat} {w:World} {enc:α→List Value} {sz:Nat} {s:Sl α} (h:SlAt B w enc sz s) (hB:∀k,D k→B≤k):SlOut D B w enc sz s:=
 ⟨h,fun hne b o hA hd=>by
  obtain ⟨b',o',h1,h2,_⟩:=h.row hne
  rw [hA] at h1
  cases h1
  have:=hB b hd
  omega⟩
abbrev cliRs (bk:Nat) (X:Bk) (m:Nat) (room:Int) (tl:List (UInt32×Sess)) (g:Shf):List Res:= [bkR bk X,tabR X.bs m room tl,star (shRs X.bh g)]
theorem grant_is {l:List Sess} {room:Int} {x:Sess} {i:Nat} (hl:(l.take i).length=i) (hb:byId (l.take i) x.id=none):grantE (tblOf (l.take i)) room x=if ¬(1≤x.quota.toNat∧x.quota.toNat≤64∧x.used.toNat≤x.quota.toNat) then 1 else if room≤(i:Nat) then 16 else 0:=by
 have h1:(tblOf (l.take i)).length=i:=by unfold tblOf;rw [List.length_map,hl]
 unfold grantE
 rw [tblOf_lookup,hb,h1]
 by_cases h:1≤x.quota.toNat∧x.quota.toNat≤64∧x.used.toNat≤x.quota.toNat
 ·rw [if_neg (by omega),if_neg (c:=¬(_∧_∧_)) (fun hn=>hn h)]
  rfl
 ·rw [if_pos (by omega),if_pos h]
theorem sesS_no {next:UInt32} {room:Int} {l:List Sess} {i:Nat} (hi:i < l.length) (h:sesAt next l i=false∨room≤i):sesS next room l=false:=by
 unfold sesS
 rcases h with h|h
 ·rw [allR_no hi h,Bool.false_and]
 ·rw [Bool.and_eq_false_iff]
  exact .inr (decide_eq_false (by omega))
theorem clients_any {B:Nat} {w0:World} {bk m:Nat} {X:Bk} {room:Int} {g:Shf} {x:Sta} (h:(star (cliRs bk X m room [] g)).ok w0) (hs:StaAt B w0 x) (hB:∀k,(star (cliRs bk X m room [] g)).dom k→B≤k) (hBw:B≤w0.heap.size) (hf:FewI x) (hroom:0≤room) (hg:ShI g []) (hgn:g.next≤10):
  Calls Tryz.prog 68 #[ptr bk,x.v] w0 fun e w'=>∃q tl g',q=(sesS x.next room x.ses.l && blobS x.ses.l (x.blobs.l.map Blob.p))∧e= .returned (.bool q)∧(q=true→tl=tblOf x.ses.l∧ShI g' (x.blobs.l.map Blob.p))∧Mut (star (cliRs bk X m room [] g)) (star (cliRs bk X m room tl g')) w0 w':=by
 have hp:=Hp.open h
 have u1:=Tryz.underlying27
 have u2:=Tryz.underlying28
 have u5:=Tryz.underlying38
 have f1:=hf.ses
 have f2:=hf.blobs
 refine calls_x (args:= [_,_]) tabOk Tryz.func68 Tryz.ntmps68 Tryz.results68 rfl (Nat.le_of_ble_eq_true rfl) ?_
 ((conv=>whnf);repeat' ((first|((with_reducible refine ld_id ?_);(apply ld_hs hp;(focus repeat' constructor);exact rfl))|((with_reducible refine al_id ?_);(refine al_cel hp ?_;clear hp;intro bb w hp))|((with_reducible refine gen_id ?_);(apply gen_len;exact rfl;exact rfl;assumption)))<;>(conv=>whnf)))
 obtain ⟨b3,hb3⟩:∃b,b=bb:=⟨_,rfl⟩
 subst hb3
 refine lp_inv (α:=Nat) (fun i=> [(0,ptr bk),(3,ptr b3),(12,x.ses.v),(13,i64 x.ses.l.length),(14,i64 i)]) (fun i w=>i≤x.ses.l.length∧(i:Int)≤room∧(∀k,k < i→sesAt x.next x.ses.l k=true)∧Hp (star (cliRs bk X m room [] g)).dom w0 w (cel b3 31 x.c.toArray::cliRs bk X m room (tblOf (x.ses.l.take i)) g)) (fun i=>x.ses.l.length - i) 0 (by (repeat' (first|exact trivial|(refine ⟨rfl,?_⟩)))) ⟨by omega,by simpa using hroom,fun k hk=>absurd hk (by omega),hp⟩ ?_
 clear hp
 rintro i e0 w ⟨hi,hir,hall,hp⟩
 dsimp only at hi hir hall hp ⊢
 rcases Nat.lt_or_ge i x.ses.l.length with hlt|hge
 ·obtain ⟨b,o,y,hA,hbb,hrow,hyy⟩:=hs.ses.has hlt
  have htl:(x.ses.l.take i).length=i:=by rw [List.length_take];omega
  have hno:∀{w:World},(sesAt x.next x.ses.l i=false∨room≤i)→Hp (star (cliRs bk X m room [] g)).dom w0 w (cliRs bk X m room (tblOf (x.ses.l.take i)) g)→∃q tl g',q=(sesS x.next room x.ses.l && blobS x.ses.l (x.blobs.l.map Blob.p))∧Ending.returned (.bool false)= .returned (.bool q)∧(q=true→tl=tblOf x.ses.l∧ShI g' (x.blobs.l.map Blob.p))∧Mut (star (cliRs bk X m room [] g)) (star (cliRs bk X m room tl g')) w0 w:=fun hn hp=>
   ⟨false,tblOf (x.ses.l.take i),g,by rw [sesS_no hlt hn,Bool.false_and],rfl,fun hh=>(by cases hh),hp.shut (.refl _)⟩
  have hsa:sesAt x.next x.ses.l i=(decide (y.id.toNat < x.next.toNat) && (ascAt y x.ses.l i && decide (1≤y.quota.toNat∧y.quota.toNat≤64∧y.used.toNat≤y.quota.toNat))):=by unfold sesAt;rw [hyy]
  have hyes:y.id.toNat < x.next.toNat→ascAt y x.ses.l i=true→grantE (tblOf (x.ses.l.take i)) room y=0→(sesAt x.next x.ses.l i=true∧i < room)∧grantL (tblOf (x.ses.l.take i)) room y=tblOf (x.ses.l.take (i+1)):=fun h1 h2 h3=>by
   have hb:=asc_none hall hyy h2
   have h4:=grant_is (room:=room) htl hb
   rw [h3] at h4
   have h5:1≤y.quota.toNat∧y.quota.toNat≤64∧y.used.toNat≤y.quota.toNat:=by
    apply Classical.byContradiction
    intro hn
    rw [if_pos hn] at h4
    cases h4
   rw [if_neg (fun hn=>hn h5)] at h4
   have h6:¬room≤(i:Nat):=fun hn=>by rw [if_pos hn] at h4;cases h4
   refine ⟨⟨by rw [hsa,decide_eq_true h1,h2,decide_eq_true h5];rfl,by omega⟩,?_⟩
   unfold grantL
   rw [if_pos h3,tblOf_put hb,List.take_add_one,hyy]
   rfl
  have hnot:y.id.toNat < x.next.toNat→ascAt y x.ses.l i=true→grantE (tblOf (x.ses.l.take i)) room y≠0→sesAt x.next x.ses.l i=false∨room≤i:=fun h1 h2 h3=>by
   have hb:=asc_none hall hyy h2
   have h4:=grant_is (room:=room) htl hb
   by_cases h5:1≤y.quota.toNat∧y.quota.toNat≤64∧y.used.toNat≤y.quota.toNat
   ·rw [if_neg (fun hn=>hn h5)] at h4
    by_cases h6:room≤(i:Nat)
    ·exact .inr h6
    ·rw [if_neg h6] at h4
     exact (h3 h4).elim
   ·exact .inl (by rw [hsa,decide_eq_false h5,Bool.and_false,Bool.and_false])
  obtain ⟨E,hE⟩:∃E:Nat,grantE (tblOf (x.ses.l.take i)) room y=E:=⟨_,rfl⟩
  by_cases h1:y.id.toNat < x.next.toNat
  ·cases i with
   |zero=>
    have hasc:ascAt y x.ses.l 0=true:=rfl
    ((conv=>whnf);repeat' ((first|((with_reducible refine br_id ?_);first|(with_reducible refine br_f ?_)|((with_reducible refine br_dec (fun hx=>?_) (fun hx=>?_))<;>(try (exfalso;first|omega|contradiction))))|((with_reducible refine cn_id ?_);(refine cn rfl ?_))|((with_reducible refine ld_id ?_);(apply ld_hs hp;(focus repeat' constructor);exact rfl))|((with_reducible refine ldn_id ?_);first|((refine ldn_rowx hp hB ‹_› ‹_› _ rfl ‹_› rfl ?_))|(apply lda_hs hp;(focus repeat' constructor);exact rfl))|((with_reducible refine al_id ?_);(refine al_cel hp ?_;clear hp;intro bb w hp))|((with_reducible refine st_id ?_);(apply sta_hs hp;(focus repeat' constructor);exact rfl;exact rfl;clear hp;intro w hp;(try dsimp only [List.set] at hp)))|((with_reducible refine gen_id ?_);((refine gen_ixs rfl rfl ‹_› rfl rfl (by omega) ?_)))|((with_reducible refine dr_id ?_);(refine dr_auto tabOk (by kernel_rfl) (by decide+kernel) ?_;(try replace hp:=hp.drew))))<;>(conv=>whnf)))
    refine cl_eq (grant_any (hp.get (j:=3) rfl) y) rfl rfl ?_
    rintro e w ⟨rfl,hm⟩
    replace hp:=hp.via (j:=3) rfl hm
    clear hm
    dsimp only [List.set] at hp
    rw [hE]
    refine ⟨_,rfl,?_⟩
    by_cases hE0:E=0
    ·obtain ⟨⟨hs1,hs2⟩,hgl⟩:=hyes h1 hasc (by rw [hE];exact hE0)
     rw [hgl] at hp
     subst hE0
     ((conv=>whnf);repeat' ((first|((with_reducible refine br_id ?_);first|(with_reducible refine br_f ?_)|((with_reducible refine br_ne (fun hx=>?_) (fun hx=>?_))<;>(try (exfalso;first|omega|contradiction))))|((with_reducible refine ar_id ?_);(refine ar_i64 (by omega) ?_)))<;>(conv=>whnf)))
     exact lp_next (0+1) (by show x.ses.l.length - (0+1) < x.ses.l.length - 0;omega) (by (repeat' (first|exact trivial|(refine ⟨rfl,?_⟩)))) ⟨by show 0+1≤_;omega,by show ((0+1:Nat):Int)≤room;omega,all_step hall hs1,hp.tail⟩
    ·have hgl:grantL (tblOf (x.ses.l.take 0)) room y=tblOf (x.ses.l.take 0):=by unfold grantL;rw [if_neg (by rw [hE];exact hE0)]
     rw [hgl] at hp
     ((conv=>whnf);repeat' (((with_reducible refine br_id ?_);first|(with_reducible refine br_f ?_)|((with_reducible refine br_ne (fun hx=>?_) (fun hx=>?_))<;>(try (exfalso;first|omega|contradiction))))<;>(conv=>whnf)))
     exact ps_val (v':= .bool false) rfl (hno (hnot h1 hasc (by rw [hE];exact hE0)) hp.tail.tail)
   |succ k=>
    obtain ⟨z,hz⟩:∃z,x.ses.l[k]? =some z:=⟨_,List.getElem?_eq_getElem (by omega)⟩
    have haz:ascAt y x.ses.l (k+1)=decide (z.id.toNat < y.id.toNat):=by unfold ascAt;dsimp only;rw [hz]
    by_cases h2:z.id.toNat < y.id.toNat
    ·have hasc:ascAt y x.ses.l (k+1)=true:=by rw [haz,decide_eq_true h2]
     ((conv=>whnf);repeat' ((first|((with_reducible refine br_id ?_);first|(with_reducible refine br_t ?_)|(with_reducible refine br_f ?_)|((with_reducible refine br_dec (fun hx=>?_) (fun hx=>?_))<;>(try (exfalso;first|omega|contradiction))))|((with_reducible refine ar_id ?_);((refine ar_n (k) (by omega) (by omega) ?_)))|((with_reducible refine cn_id ?_);(refine cn rfl ?_))|((with_reducible refine ld_id ?_);first|((refine ld_row hp hB ‹_› ‹_› _ _ rfl ‹_› (by rfl) ?_))|(apply ld_hs hp;(focus repeat' constructor);exact rfl))|((with_reducible refine ldn_id ?_);first|((refine ldn_rowx hp hB ‹_› ‹_› _ rfl ‹_› rfl ?_))|(apply lda_hs hp;(focus repeat' constructor);exact rfl))|((with_reducible refine al_id ?_);(refine al_cel hp ?_;clear hp;intro bb w hp))|((with_reducible refine st_id ?_);(apply sta_hs hp;(focus repeat' constructor);exact rfl;exact rfl;clear hp;intro w hp;(try dsimp only [List.set] at hp)))|((with_reducible refine gen_id ?_);((refine gen_ixs rfl rfl ‹_› rfl rfl (by omega) ?_)))|((with_reducible refine dr_id ?_);(refine dr_auto tabOk (by kernel_rfl) (by decide+kernel) ?_;(try replace hp:=hp.drew)))|((with_reducible refine rd_id ?_);((refine rd_ixs rfl rfl ‹_› rfl rfl (by omega) ?_))))<;>(conv=>whnf)))
     refine cl_eq (grant_any (hp.get (j:=3) rfl) y) rfl rfl ?_
     rintro e w ⟨rfl,hm⟩
     replace hp:=hp.via (j:=3) rfl hm
     clear hm
     dsimp only [List.set] at hp
     rw [hE]
     refine ⟨_,rfl,?_⟩
     by_cases hE0:E=0
     ·obtain ⟨⟨hs1,hs2⟩,hgl⟩:=hyes h1 hasc (by rw [hE];exact hE0)
      rw [hgl] at hp
      subst hE0
      ((conv=>whnf);repeat' ((first|((with_reducible refine br_id ?_);first|(with_reducible refine br_f ?_)|((with_reducible refine br_ne (fun hx=>?_) (fun hx=>?_))<;>(try (exfalso;first|omega|contradiction))))|((with_reducible refine ar_id ?_);(refine ar_i64 (by omega) ?_)))<;>(conv=>whnf)))
      exact lp_next (k+1+1) (by show x.ses.l.length - (k+1+1) < x.ses.l.length - (k+1);omega) (by (repeat' (first|exact trivial|(refine ⟨rfl,?_⟩)))) ⟨by show k+1+1≤_;omega,by show ((k+1+1:Nat):Int)≤room;omega,all_step hall hs1,hp.tail⟩
     ·have hgl:grantL (tblOf (x.ses.l.take (k+1))) room y=tblOf (x.ses.l.take (k+1)):=by unfold grantL;rw [if_neg (by rw [hE];exact hE0)]
      rw [hgl] at hp
      ((conv=>whnf);repeat' (((with_reducible refine br_id ?_);first|(with_reducible refine br_f ?_)|((with_reducible refine br_ne (fun hx=>?_) (fun hx=>?_))<;>(try (exfalso;first|omega|contradiction))))<;>(conv=>whnf)))
      exact ps_val (v':= .bool false) rfl (hno (hnot h1 hasc (by rw [hE];exact hE0)) hp.tail.tail)
    ·have hn:sesAt x.next x.ses.l (k+1)=false:=by rw [hsa,haz,decide_eq_false h2,Bool.false_and,Bool.and_false]
     ((conv=>whnf);repeat' ((first|((with_reducible refine br_id ?_);first|(with_reducible refine br_t ?_)|(with_reducible refine br_f ?_)|((with_reducible refine br_dec (fun hx=>?_) (fun hx=>?_))<;>(try (exfalso;first|omega|contradiction))))|((with_reducible refine ar_id ?_);((refine ar_n (k) (by omega) (by omega) ?_)))|((with_reducible refine cn_id ?_);(refine cn rfl ?_))|((with_reducible refine ld_id ?_);first|((refine ld_row hp hB ‹_› ‹_› _ _ rfl ‹_› (by rfl) ?_))|(apply ld_hs hp;(focus repeat' constructor);exact rfl))|((with_reducible refine ldn_id ?_);((refine ldn_rowx hp hB ‹_› ‹_› _ rfl ‹_› rfl ?_)))|((with_reducible refine al_id ?_);(refine al_cel hp ?_;clear hp;intro bb w hp))|((with_reducible refine st_id ?_);(apply sta_hs hp;(focus repeat' constructor);exact rfl;exact rfl;clear hp;intro w hp;(try dsimp only [List.set] at hp)))|((with_reducible refine gen_id ?_);((refine gen_ixs rfl rfl ‹_› rfl rfl (by omega) ?_)))|((with_reducible refine dr_id ?_);(refine dr_auto tabOk (by kernel_rfl) (by decide+kernel) ?_;(try replace hp:=hp.drew)))|((with_reducible refine rd_id ?_);((refine rd_ixs rfl rfl ‹_› rfl rfl (by omega) ?_))))<;>(conv=>whnf)))
     exact ps_val (v':= .bool false) rfl (hno (.inl hn) hp.tail.tail)
  ·have hn:sesAt x.next x.ses.l i=false:=by rw [hsa,decide_eq_false h1,Bool.false_and]
   ((conv=>whnf);repeat' ((first|((with_reducible refine br_id ?_);first|(with_reducible refine br_t ?_)|((with_reducible refine br_dec (fun hx=>?_) (fun hx=>?_))<;>(try (exfalso;first|omega|contradiction))))|((with_reducible refine cn_id ?_);(refine cn rfl ?_))|((with_reducible refine ld_id ?_);(apply ld_hs hp;(focus repeat' constructor);exact rfl))|((with_reducible refine ldn_id ?_);((refine ldn_rowx hp hB ‹_› ‹_› _ rfl ‹_› rfl ?_)))|((with_reducible refine al_id ?_);(refine al_cel hp ?_;clear hp;intro bb w hp))|((with_reducible refine st_id ?_);(apply sta_hs hp;(focus repeat' constructor);exact rfl;exact rfl;clear hp;intro w hp;(try dsimp only [List.set] at hp)))|((with_reducible refine gen_id ?_);((refine gen_ixs rfl rfl ‹_› rfl rfl (by omega) ?_)))|((with_reducible refine dr_id ?_);(refine dr_auto tabOk (by kernel_rfl) (by decide+kernel) ?_;(try replace hp:=hp.drew))))<;>(conv=>whnf)))
   exact ps_val (v':= .bool false) rfl (hno (.inl hn) hp.tail.tail)
 have hsS:sesS x.next room x.ses.l=true:=by
  unfold sesS
  rw [allR_yes fun k hk=>hall k (by omega),Bool.true_and]
  exact decide_eq_true (by omega)
 rw [List.take_of_length_le hge] at hp
 rw [hsS,Bool.true_and]
 ((conv=>whnf);repeat' ((first|((with_reducible refine br_id ?_);((with_reducible refine br_dec (fun hx=>?_) (fun hx=>?_))<;>(try (exfalso;first|omega|contradiction))))|((with_reducible refine ld_id ?_);(apply ld_hs hp;(focus repeat' constructor);exact rfl))|((with_reducible refine gen_id ?_);(apply gen_len;exact rfl;exact rfl;assumption)))<;>(conv=>whnf)))
 refine lp_inv (α:=Nat×Shf) (fun a=> [(0,ptr bk),(3,ptr b3),(51,x.blobs.v),(52,i64 x.blobs.l.length),(53,i64 a.1)]) (fun a w=>a.1≤x.blobs.l.length∧(∀k,k < a.1→blobAt x.ses.l (x.blobs.l.map Blob.p) k=true)∧ShI a.2 ((x.blobs.l.map Blob.p).take a.1)∧a.2.next≤10+a.1∧Hp (star (cliRs bk X m room [] g)).dom w0 w (cel b3 31 x.c.toArray::cliRs bk X m room (tblOf x.ses.l) a.2)) (fun a=>x.blobs.l.length - a.1) (0,g) (by (repeat' (first|exact trivial|(refine ⟨rfl,?_⟩)))) ⟨by omega,fun k hk=>absurd hk (by omega),by rw [List.take_zero];exact hg,by show g.next≤10+((0:Nat):Int);omega,hp⟩ ?_
 clear hp hi hir hall hge hgn hg
 rintro ⟨i,gi⟩ e0 w ⟨hi,hall,hg,hgn,hp⟩
 dsimp only at hi hall hg hgn hp ⊢
 rcases Nat.lt_or_ge i x.blobs.l.length with hlt|hge
 ·obtain ⟨b,o,y,hA,hbb,hrow,hyy⟩:=hs.blobs.row.has hlt
  have hmem:=List.mem_of_getElem? hyy
  have hya:=hs.blobs.data y hmem
  have hyp:(x.blobs.l.map Blob.p)[i]? =some y.p:=by rw [List.getElem?_map,hyy];rfl
  have hba:blobAt x.ses.l (x.blobs.l.map Blob.p) i=(useOk y.key.seq (byId x.ses.l y.key.ses) && decide (addE ((x.blobs.l.map Blob.p).take i) y.p=0)):=by unfold blobAt;rw [hyp];rfl
  have hno:∀{w:World} {g':Shf},blobAt x.ses.l (x.blobs.l.map Blob.p) i=false→Hp (star (cliRs bk X m room [] g)).dom w0 w (cliRs bk X m room (tblOf x.ses.l) g')→∃q tl g',q=blobS x.ses.l (x.blobs.l.map Blob.p)∧Ending.returned (.bool false)= .returned (.bool q)∧(q=true→tl=tblOf x.ses.l∧ShI g' (x.blobs.l.map Blob.p))∧Mut (star (cliRs bk X m room [] g)) (star (cliRs bk X m room tl g')) w0 w:=fun {w g'} hn hp=>
   ⟨false,tblOf x.ses.l,g',by rw [show blobS x.ses.l (x.blobs.l.map Blob.p)=false from allR_no (by rw [List.length_map];exact hlt) hn],rfl,fun hh=>(by cases hh),hp.shut (.refl _)⟩
  obtain ⟨zz,hzz⟩:∃zz,(byId x.ses.l y.key.ses).getD Sess.z=zz:=⟨_,rfl⟩
  obtain ⟨qz,hqz⟩:∃qz,(byId x.ses.l y.key.ses).isSome=qz:=⟨_,rfl⟩
  have hget:∀{w:World},(tabR X.bs m room (tblOf x.ses.l)).ok w→Calls Tryz.prog 118 #[ptr X.bs,u32 y.key.ses] w fun e w'=>e= .returned (.tuple #[zz.v, .bool qz])∧Mut (tabR X.bs m room (tblOf x.ses.l)) (tabR X.bs m room (tblOf x.ses.l)) w w':=fun hh=>by
   have:=get_any hh y.key.ses
   rw [tblOf_lookup,hzz,hqz] at this
   exact this
  ((conv=>whnf);repeat' ((first|((with_reducible refine br_id ?_);((with_reducible refine br_dec (fun hx=>?_) (fun hx=>?_))<;>(try (exfalso;first|omega|contradiction))))|((with_reducible refine cn_id ?_);(refine cn rfl ?_))|((with_reducible refine ldn_id ?_);((refine ldn_rowx hp hB ‹_› ‹_› _ rfl ‹_› rfl ?_)))|((with_reducible refine al_id ?_);(refine al_cel hp ?_;clear hp;intro bb w hp))|((with_reducible refine st_id ?_);(apply sta_hs hp;(focus repeat' constructor);exact rfl;exact rfl;clear hp;intro w hp;(try dsimp only [List.set] at hp)))|((with_reducible refine gen_id ?_);((refine gen_ixs rfl rfl ‹_› rfl rfl (by omega) ?_))))<;>(conv=>whnf)))
  refine dr_cut (fun e w=>∃(b8 b9:Nat) (e0:Nat→Value),e=eat [(0,ptr bk),(3,ptr b3),(8,ptr b8),(9,ptr b9),(10, .bool qz),(51,x.blobs.v),(52,i64 x.blobs.l.length),(53,i64 i)] ⟨e0, []⟩∧Hp (star (cliRs bk X m room [] g)).dom w0 w (cel b9 56 zz.c.toArray::cel b8 40 y.c.toArray::cel b3 31 x.c.toArray::cliRs bk X m room (tblOf x.ses.l) gi)) ?_ ?_
  ·((conv=>whnf);repeat' ((first|((with_reducible refine cn_id ?_);(refine cn rfl ?_))|((with_reducible refine ld_id ?_);(apply ld_hs hp;(focus repeat' constructor);exact rfl))|((with_reducible refine al_id ?_);(refine al_cel hp ?_;clear hp;intro bb w hp))|((with_reducible refine st_id ?_);(apply sta_hs hp;(focus repeat' constructor);exact rfl;exact rfl;clear hp;intro w hp;(try dsimp only [List.set] at hp)))|((with_reducible refine dr_id ?_);(refine dr_autot tabOk (by kernel_rfl) (by decide+kernel) ?_;(try replace hp:=hp.drew)))|((with_reducible refine fk_id ?_);(refine fk_mk ?_ ?_))|((with_reducible refine cl_id ?_);first|((refine cl_eq (hget (hp.get (j:=3) rfl)) rfl rfl ?_;rintro e w ⟨rfl,hm⟩;replace hp:=hp.via (j:=3) rfl hm;clear hm;dsimp only [List.set] at hp;refine ⟨_,rfl,?_⟩))|((refine cl_eq (hget (hp.get (j:=4) rfl)) rfl rfl ?_;rintro e w ⟨rfl,hm⟩;replace hp:=hp.via (j:=4) rfl hm;clear hm;dsimp only [List.set] at hp;refine ⟨_,rfl,?_⟩))))<;>(conv=>whnf)))
   all_goals exact ⟨_,_,_,eat_holds (by (repeat' (first|exact trivial|(refine ⟨rfl,?_⟩)))),hp⟩
  clear hp
  rintro e w ⟨b8,b9,e0,rfl,hp⟩
  cases hz:byId x.ses.l y.key.ses with
  |none=>
   have hn:blobAt x.ses.l (x.blobs.l.map Blob.p) i=false:=by rw [hba,hz];rfl
   obtain rfl:qz=false:=by rw [hz] at hqz;exact hqz.symm
   ((conv=>whnf);repeat' ((first|((with_reducible refine br_id ?_);first|(with_reducible refine br_t ?_)|(with_reducible refine br_f ?_)|(with_reducible refine br_not ?_))|((with_reducible refine dr_id ?_);(refine dr_auto tabOk (by kernel_rfl) (by decide+kernel) ?_;(try replace hp:=hp.drew))))<;>(conv=>whnf)))
   exact ps_val (v':= .bool false) rfl (hno hn hp.tail.tail.tail)
  |some z=>
   obtain rfl:qz=true:=by rw [hz] at hqz;exact hqz.symm
   obtain rfl:z=zz:=by rw [hz] at hzz;exact hzz
   by_cases h1:y.key.seq.toNat < z.used.toNat
   ·((conv=>whnf);repeat' ((first|((with_reducible refine br_id ?_);first|(with_reducible refine br_t ?_)|(with_reducible refine br_f ?_)|(with_reducible refine br_not ?_)|((with_reducible refine br_dec (fun hx=>?_) (fun hx=>?_))<;>(try (exfalso;first|omega|contradiction))))|((with_reducible refine ld_id ?_);(apply ld_hs hp;(focus repeat' constructor);exact rfl))|((with_reducible refine ldn_id ?_);(apply lda_hs hp;(focus repeat' constructor);exact rfl))|((with_reducible refine dr_id ?_);(refine dr_auto tabOk (by kernel_rfl) (by decide+kernel) ?_;(try replace hp:=hp.drew))))<;>(conv=>whnf)))
    refine cl_eq (shadd_any (hp.get (j:=5) rfl) hg y (out_lt (hya.keep hp.chg hB) fun k hk=>?_) (Nat.le_trans hBw hp.chg.size) (by rw [List.length_take,List.length_map];omega) (by omega)) rfl rfl ?_
    ·have h2:=hp.own (star (shRs X.bh gi)) (by simp) k hk
     rcases h2 with h2|h2
     ·exact hB k h2
     ·omega
    rintro e w ⟨g',rfl,hg',hgn',hm⟩
    replace hp:=hp.via (j:=5) rfl hm
    clear hm
    dsimp only [List.set] at hp
    refine ⟨_,rfl,?_⟩
    obtain ⟨E,hE⟩:∃E:Nat,addE ((x.blobs.l.map Blob.p).take i) y.p=E:=⟨_,rfl⟩
    rw [hE] at hba ⊢
    by_cases hE0:E=0
    ·subst hE0
     have hb1:blobAt x.ses.l (x.blobs.l.map Blob.p) i=true:=by rw [hba,hz];exact (Bool.and_true _).trans (decide_eq_true h1)
     unfold addW at hg'
     rw [if_pos hE] at hg'
     ((conv=>whnf);repeat' ((first|((with_reducible refine br_id ?_);first|(with_reducible refine br_f ?_)|((with_reducible refine br_ne (fun hx=>?_) (fun hx=>?_))<;>(try (exfalso;first|omega|contradiction))))|((with_reducible refine ar_id ?_);(refine ar_i64 (by omega) ?_)))<;>(conv=>whnf)))
     refine lp_next (i+1,g') (by show x.blobs.l.length - (i+1) < x.blobs.l.length - i;omega) (by (repeat' (first|exact trivial|(refine ⟨rfl,?_⟩)))) ⟨by show i+1≤_;omega,all_step hall hb1,?_,by show g'.next≤10+(i+1);omega,hp.tail.tail⟩
     rw [List.take_add_one,hyp]
     exact hg'
    ·have hn:blobAt x.ses.l (x.blobs.l.map Blob.p) i=false:=by rw [hba,decide_eq_false hE0,Bool.and_false]
     ((conv=>whnf);repeat' (((with_reducible refine br_id ?_);first|(with_reducible refine br_f ?_)|((with_reducible refine br_ne (fun hx=>?_) (fun hx=>?_))<;>(try (exfalso;first|omega|contradiction))))<;>(conv=>whnf)))
     exact ps_val (v':= .bool false) rfl (hno hn hp.tail.tail.tail)
   ·have hn:blobAt x.ses.l (x.blobs.l.map Blob.p) i=false:=by rw [hba,hz];exact (congrArg (· && _) (decide_eq_false h1)).trans rfl
    ((conv=>whnf);repeat' ((first|((with_reducible refine br_id ?_);first|(with_reducible refine br_t ?_)|(with_reducible refine br_f ?_)|(with_reducible refine br_not ?_)|((with_reducible refine br_dec (fun hx=>?_) (fun hx=>?_))<;>(try (exfalso;first|omega|contradiction))))|((with_reducible refine ld_id ?_);(apply ld_hs hp;(focus repeat' constructor);exact rfl))|((with_reducible refine dr_id ?_);(refine dr_auto tabOk (by kernel_rfl) (by decide+kernel) ?_;(try replace hp:=hp.drew))))<;>(conv=>whnf)))
    exact ps_val (v':= .bool false) rfl (hno hn hp.tail.tail.tail)
 ·have hbS:blobS x.ses.l (x.blobs.l.map Blob.p)=true:=allR_yes fun k hk=>hall k (by rw [List.length_map] at hk;omega)
  ((conv=>whnf);repeat' (((with_reducible refine br_id ?_);((with_reducible refine br_dec (fun hx=>?_) (fun hx=>?_))<;>(try (exfalso;first|omega|contradiction))))<;>(conv=>whnf)))
  refine ps_val (v':= .bool true) rfl ⟨true,tblOf x.ses.l,gi,hbS.symm,rfl,fun _=>⟨rfl,?_⟩,hp.tail.shut (.refl _)⟩
  rwa [List.take_of_length_le (by rw [List.length_map];exact hge)] at hg
end Go.Proofs.YteabebmlclgakaaGreat
