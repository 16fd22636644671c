/- MAuditTells27: Aud2, Aud3, Aud4. -/
import Derived.Test.YteabebmlclgakaaGreatMAuditTellssAud1
set_option linter.unusedSimpArgs false
set_option linter.unusedVariables false
/- Aud2: package audit: what is due, what stands; the document's answers. Of states that are few. -/
namespace Go.Proofs.YteabebmlclgakaaGreat
open Go.RowKit
set_option maxRecDepth 100000
set_option maxHeartbeats 4000000
theorem all_snoc {α:Type} {l:List α} {i:Nat} {y:α} {p:α→Bool} (h:∀z∈l.take i,p z=true) (hy:l[i]? =some y) (hp:p y=true):∀z∈l.take (i+1),p z=true:=fun z hz=>by
 rw [List.take_add_one,hy] at hz
 rcases List.mem_append.1 hz with hz|hz
 ·exact h z hz
 ·obtain rfl:z=y:=by simpa using hz
  exact hp
theorem all_not {α:Type} {l:List α} {y:α} {p:α→Bool} (hm:y∈l) (hp:p y=false):l.all p=false:=List.all_eq_false.2 ⟨y,hm,by rw [hp];simp⟩
theorem all_end {α:Type} {l:List α} {i:Nat} {p:α→Bool} (h:∀z∈l.take i,p z=true) (hi:l.length≤i):l.all p=true:=by
 rw [List.take_of_length_le hi] at h
 exact List.all_eq_true.2 h
def lowS (x:Sta):Int:=(x.ht.toNat:Int) - max x.cfg.dep (-1099511627776)
def dueA (lo:Int) (s:Sess):Bool:=decide (lo≤(s.exp.toNat:Int))
def dueJ (lo:Int) (j:Job):Bool:=decide (j.mined.toNat=0∨lo≤(j.mined.toNat:Int))
def dueS (x:Sta):Bool:=x.ses.l.all (dueA (lowS x)) && x.jobs.l.all (dueJ (lowS x))
theorem adue_any {B:Nat} {w0:World} {x:Sta} (hs:StaAt B w0 x) (hf:FewI x) (hd: -9223372036854775808≤x.cfg.dep∧x.cfg.dep≤9223372036854775807):Calls Tryz.prog 150 #[x.v] w0 fun e w'=>e= .returned (.bool (dueS x))∧Chg N0 w0 w':=by
 have hp:=Hp.start (S:=N0) w0
 have hB:∀b,N0 b→B≤b:=fun _ hh=>hh.elim
 have u1:=Tryz.underlying27
 have u4:=Tryz.underlying29
 have f1:=hf.ses
 have f4:=hf.jobs
 have hht:=x.ht.toNat_lt
 obtain ⟨lo,hlo⟩:∃lo,lowS x=lo:=⟨_,rfl⟩
 have hlo2:(x.ht.toNat:Int) - max x.cfg.dep (-1099511627776)=lo:=hlo
 have ar_low:∀{f:Int→Prop},f lo→Ar .i64 ((x.ht.toNat:Int) - max x.cfg.dep (-1099511627776)) f:=fun {f} hh=>ar_i64 (by omega) (by rw [hlo2];exact hh)
 unfold dueS
 rw [hlo]
 refine calls_x (args:= [_]) tabOk Tryz.func150 Tryz.ntmps150 Tryz.results150 rfl (Nat.le_of_ble_eq_true rfl) ?_
 ((conv=>whnf);repeat' ((first|((with_reducible refine ar_id ?_);first|((refine ar_low ?_))|(refine ar_i64 (by omega) ?_))|((with_reducible refine ld_id ?_);(apply ld_hs hp;(focus repeat' constructor);exact rfl))|((with_reducible refine al_id ?_);(refine al_cel hp ?_;clear hp;intro bb w hp))|((with_reducible refine gen_id ?_);first|(apply gen_len;exact rfl;exact rfl;assumption)|(apply gen_max;exact rfl;exact rfl;exact rfl)))<;>(conv=>whnf)))
 obtain ⟨b1,hb1⟩:∃b,b=bb:=⟨_,rfl⟩
 subst hb1
 refine lp_inv (α:=Nat) (fun i=> [(1,ptr b1),(3,i64 lo),(17,x.ses.v),(18,i64 x.ses.l.length),(19,i64 i)]) (fun i w=>i≤x.ses.l.length∧(∀z∈x.ses.l.take i,dueA lo z=true)∧Hp N0 w0 w [cel b1 31 x.c.toArray]) (fun i=>x.ses.l.length - i) 0 (by (repeat' (first|exact trivial|(refine ⟨rfl,?_⟩)))) ⟨by omega,by simp,hp⟩ ?_
 clear hp
 rintro i e0 w ⟨hi,hall,hp⟩
 dsimp only at hi hall hp ⊢
 rcases Nat.lt_or_ge i x.ses.l.length with hlt|hge
 ·obtain ⟨b,o,y,hA,hbb,hrow,hyy⟩:=hs.ses.has hlt
  have hmem:=List.mem_of_getElem? hyy
  have hye:=y.exp.toNat_lt
  by_cases h1:lo≤(y.exp.toNat:Int)
  ·((conv=>whnf);repeat' ((first|((with_reducible refine br_id ?_);((with_reducible refine br_dec (fun hx=>?_) (fun hx=>?_))<;>(try (exfalso;first|omega|contradiction))))|((with_reducible refine ar_id ?_);(refine ar_i64 (by omega) ?_))|((with_reducible refine cn_id ?_);(refine cn rfl ?_))|((with_reducible refine ld_id ?_);(apply ld_hs hp;(focus repeat' constructor);exact rfl))|((with_reducible refine ldn_id ?_);((refine ldn_rowx hp hB ‹_› ‹_› _ rfl ‹_› rfl ?_)))|((with_reducible refine al_id ?_);(refine al_cel hp ?_;clear hp;intro bb w hp))|((with_reducible refine st_id ?_);(apply sta_hs hp;(focus repeat' constructor);exact rfl;exact rfl;clear hp;intro w hp;(try dsimp only [List.set] at hp)))|((with_reducible refine gen_id ?_);((refine gen_ixs rfl rfl ‹_› rfl rfl (by omega) ?_))))<;>(conv=>whnf)))
   all_goals first
    |exact lp_next (i+1) (by show x.ses.l.length - (i+1) < x.ses.l.length - i;omega) (by (repeat' (first|exact trivial|(refine ⟨rfl,?_⟩)))) ⟨by show i+1≤_;omega,all_snoc hall hyy (decide_eq_true h1),hp.tail⟩
    |omega
  ·((conv=>whnf);repeat' ((first|((with_reducible refine br_id ?_);((with_reducible refine br_dec (fun hx=>?_) (fun hx=>?_))<;>(try (exfalso;first|omega|contradiction))))|((with_reducible refine ar_id ?_);(refine ar_i64 (by omega) ?_))|((with_reducible refine cn_id ?_);(refine cn rfl ?_))|((with_reducible refine ld_id ?_);(apply ld_hs hp;(focus repeat' constructor);exact rfl))|((with_reducible refine ldn_id ?_);((refine ldn_rowx hp hB ‹_› ‹_› _ rfl ‹_› rfl ?_)))|((with_reducible refine al_id ?_);(refine al_cel hp ?_;clear hp;intro bb w hp))|((with_reducible refine st_id ?_);(apply sta_hs hp;(focus repeat' constructor);exact rfl;exact rfl;clear hp;intro w hp;(try dsimp only [List.set] at hp)))|((with_reducible refine gen_id ?_);((refine gen_ixs rfl rfl ‹_› rfl rfl (by omega) ?_))))<;>(conv=>whnf)))
   all_goals first
    |exact ps_val (v':= .bool false) rfl ⟨by rw [all_not hmem (decide_eq_false h1),Bool.false_and],hp.chg⟩
    |omega
 rw [all_end hall hge,Bool.true_and]
 clear hi hall
 ((conv=>whnf);repeat' ((first|((with_reducible refine br_id ?_);((with_reducible refine br_dec (fun hx=>?_) (fun hx=>?_))<;>(try (exfalso;first|omega|contradiction))))|((with_reducible refine ld_id ?_);(apply ld_hs hp;(focus repeat' constructor);exact rfl))|((with_reducible refine gen_id ?_);(apply gen_len;exact rfl;exact rfl;assumption)))<;>(conv=>whnf)))
 refine lp_inv (α:=Nat) (fun i=> [(1,ptr b1),(3,i64 lo),(30,x.jobs.v),(31,i64 x.jobs.l.length),(32,i64 i)]) (fun i w=>i≤x.jobs.l.length∧(∀z∈x.jobs.l.take i,dueJ lo z=true)∧Hp N0 w0 w [cel b1 31 x.c.toArray]) (fun i=>x.jobs.l.length - i) 0 (by (repeat' (first|exact trivial|(refine ⟨rfl,?_⟩)))) ⟨by omega,by simp,hp⟩ ?_
 clear hp hge
 rintro i e0 w ⟨hi,hall,hp⟩
 dsimp only at hi hall hp ⊢
 rcases Nat.lt_or_ge i x.jobs.l.length with hlt|hge
 ·obtain ⟨b,o,y,hA,hbb,hrow,hyy⟩:=hs.jobs.has hlt
  have hmem:=List.mem_of_getElem? hyy
  have hye:=y.mined.toNat_lt
  by_cases h1:y.mined.toNat=0∨lo≤(y.mined.toNat:Int)
  ·((conv=>whnf);repeat' ((first|((with_reducible refine br_id ?_);first|(with_reducible refine br_t ?_)|(with_reducible refine br_f ?_)|((with_reducible refine br_dec (fun hx=>?_) (fun hx=>?_))<;>(try (exfalso;first|omega|contradiction)))|((with_reducible refine br_ne (fun hx=>?_) (fun hx=>?_))<;>(try (exfalso;first|omega|contradiction))))|((with_reducible refine ar_id ?_);(refine ar_i64 (by omega) ?_))|((with_reducible refine cn_id ?_);(refine cn rfl ?_))|((with_reducible refine ld_id ?_);(apply ld_hs hp;(focus repeat' constructor);exact rfl))|((with_reducible refine ldn_id ?_);((refine ldn_rowx hp hB ‹_› ‹_› _ rfl ‹_› rfl ?_)))|((with_reducible refine al_id ?_);(refine al_cel hp ?_;clear hp;intro bb w hp))|((with_reducible refine st_id ?_);(apply sta_hs hp;(focus repeat' constructor);exact rfl;exact rfl;clear hp;intro w hp;(try dsimp only [List.set] at hp)))|((with_reducible refine gen_id ?_);((refine gen_ixs rfl rfl ‹_› rfl rfl (by omega) ?_))))<;>(conv=>whnf)))
   all_goals first
    |exact lp_next (i+1) (by show x.jobs.l.length - (i+1) < x.jobs.l.length - i;omega) (by (repeat' (first|exact trivial|(refine ⟨rfl,?_⟩)))) ⟨by show i+1≤_;omega,all_snoc hall hyy (decide_eq_true h1),hp.tail⟩
    |omega
  ·((conv=>whnf);repeat' ((first|((with_reducible refine br_id ?_);first|(with_reducible refine br_t ?_)|((with_reducible refine br_dec (fun hx=>?_) (fun hx=>?_))<;>(try (exfalso;first|omega|contradiction)))|((with_reducible refine br_ne (fun hx=>?_) (fun hx=>?_))<;>(try (exfalso;first|omega|contradiction))))|((with_reducible refine ar_id ?_);(refine ar_i64 (by omega) ?_))|((with_reducible refine cn_id ?_);(refine cn rfl ?_))|((with_reducible refine ld_id ?_);(apply ld_hs hp;(focus repeat' constructor);exact rfl))|((with_reducible refine ldn_id ?_);((refine ldn_rowx hp hB ‹_› ‹_› _ rfl ‹_› rfl ?_)))|((with_reducible refine al_id ?_);(refine al_cel hp ?_;clear hp;intro bb w hp))|((with_reducible refine st_id ?_);(apply sta_hs hp;(focus repeat' constructor);exact rfl;exact rfl;clear hp;intro w hp;(try dsimp only [List.set] at hp)))|((with_reducible refine gen_id ?_);((refine gen_ixs rfl rfl ‹_› rfl rfl (by omega) ?_))))<;>(conv=>whnf)))
   all_goals first
    |exact ps_val (v':= .bool false) rfl ⟨by rw [all_not hmem (decide_eq_false h1)],hp.chg⟩
    |omega
 ·((conv=>whnf);repeat' (((with_reducible refine br_id ?_);((with_reducible refine br_dec (fun hx=>?_) (fun hx=>?_))<;>(try (exfalso;first|omega|contradiction))))<;>(conv=>whnf)))
  exact ps_val (v':= .bool true) rfl ⟨by rw [all_end hall hge],hp.chg⟩
theorem rdue_any {B:Nat} {w0:World} {x:Sta} (hs:StaAt B w0 x) (hf:FewI x) (hd: -9223372036854775808≤x.cfg.dep∧x.cfg.dep≤9223372036854775807):Calls Tryz.prog 86 #[x.v] w0 fun e w'=>e= .returned (.bool (dueS x))∧Chg N0 w0 w':=by
 have hp:=Hp.start (S:=N0) w0
 have hB:∀b,N0 b→B≤b:=fun _ hh=>hh.elim
 have u1:=Tryz.underlying27
 have u4:=Tryz.underlying29
 have f1:=hf.ses
 have f4:=hf.jobs
 have hht:=x.ht.toNat_lt
 obtain ⟨lo,hlo⟩:∃lo,lowS x=lo:=⟨_,rfl⟩
 have hlo2:(x.ht.toNat:Int) - max x.cfg.dep (-1099511627776)=lo:=hlo
 have ar_low:∀{f:Int→Prop},f lo→Ar .i64 ((x.ht.toNat:Int) - max x.cfg.dep (-1099511627776)) f:=fun {f} hh=>ar_i64 (by omega) (by rw [hlo2];exact hh)
 unfold dueS
 rw [hlo]
 refine calls_x (args:= [_]) tabOk Tryz.func86 Tryz.ntmps86 Tryz.results86 rfl (Nat.le_of_ble_eq_true rfl) ?_
 ((conv=>whnf);repeat' ((first|((with_reducible refine ar_id ?_);first|((refine ar_low ?_))|(refine ar_i64 (by omega) ?_))|((with_reducible refine ld_id ?_);(apply ld_hs hp;(focus repeat' constructor);exact rfl))|((with_reducible refine al_id ?_);(refine al_cel hp ?_;clear hp;intro bb w hp))|((with_reducible refine gen_id ?_);(apply gen_max;exact rfl;exact rfl;exact rfl)))<;>(conv=>whnf)))
 obtain ⟨b1,hb1⟩:∃b,b=bb:=⟨_,rfl⟩
 subst hb1
 refine lp_inv (α:=Nat) (fun i=> [(1,ptr b1),(3,i64 lo),(4,i64 i)]) (fun i w=>i≤x.ses.l.length∧(∀z∈x.ses.l.take i,dueA lo z=true)∧Hp N0 w0 w [cel b1 31 x.c.toArray]) (fun i=>x.ses.l.length - i) 0 (by (repeat' (first|exact trivial|(refine ⟨rfl,?_⟩)))) ⟨by omega,by simp,hp⟩ ?_
 clear hp
 rintro i e0 w ⟨hi,hall,hp⟩
 dsimp only at hi hall hp ⊢
 rcases Nat.lt_or_ge i x.ses.l.length with hlt|hge
 ·obtain ⟨b,o,y,hA,hbb,hrow,hyy⟩:=hs.ses.has hlt
  have hmem:=List.mem_of_getElem? hyy
  have hye:=y.exp.toNat_lt
  by_cases h1:lo≤(y.exp.toNat:Int)
  ·((conv=>whnf);repeat' ((first|((with_reducible refine br_id ?_);((with_reducible refine br_dec (fun hx=>?_) (fun hx=>?_))<;>(try (exfalso;first|omega|contradiction))))|((with_reducible refine ar_id ?_);(refine ar_i64 (by omega) ?_))|((with_reducible refine ld_id ?_);first|((refine ld_row hp hB ‹_› ‹_› _ _ rfl ‹_› (by rfl) ?_))|(apply ld_hs hp;(focus repeat' constructor);exact rfl))|((with_reducible refine gen_id ?_);first|((refine gen_ixs rfl rfl ‹_› rfl rfl (by omega) ?_))|(apply gen_len;exact rfl;exact rfl;assumption)))<;>(conv=>whnf)))
   all_goals first
    |exact lp_next (i+1) (by show x.ses.l.length - (i+1) < x.ses.l.length - i;omega) (by (repeat' (first|exact trivial|(refine ⟨rfl,?_⟩)))) ⟨by show i+1≤_;omega,all_snoc hall hyy (decide_eq_true h1),hp⟩
    |omega
  ·((conv=>whnf);repeat' ((first|((with_reducible refine br_id ?_);((with_reducible refine br_dec (fun hx=>?_) (fun hx=>?_))<;>(try (exfalso;first|omega|contradiction))))|((with_reducible refine ar_id ?_);(refine ar_i64 (by omega) ?_))|((with_reducible refine ld_id ?_);first|((refine ld_row hp hB ‹_› ‹_› _ _ rfl ‹_› (by rfl) ?_))|(apply ld_hs hp;(focus repeat' constructor);exact rfl))|((with_reducible refine gen_id ?_);first|((refine gen_ixs rfl rfl ‹_› rfl rfl (by omega) ?_))|(apply gen_len;exact rfl;exact rfl;assumption)))<;>(conv=>whnf)))
   all_goals first
    |exact ps_val (v':= .bool false) rfl ⟨by rw [all_not hmem (decide_eq_false h1),Bool.false_and],hp.chg⟩
    |omega
 rw [all_end hall hge,Bool.true_and]
 clear hi hall
 ((conv=>whnf);repeat' ((first|((with_reducible refine br_id ?_);((with_reducible refine br_dec (fun hx=>?_) (fun hx=>?_))<;>(try (exfalso;first|omega|contradiction))))|((with_reducible refine ld_id ?_);(apply ld_hs hp;(focus repeat' constructor);exact rfl))|((with_reducible refine gen_id ?_);(apply gen_len;exact rfl;exact rfl;assumption)))<;>(conv=>whnf)))
 refine lp_inv (α:=Nat) (fun i=> [(1,ptr b1),(3,i64 lo),(5,i64 i)]) (fun i w=>i≤x.jobs.l.length∧(∀z∈x.jobs.l.take i,dueJ lo z=true)∧Hp N0 w0 w [cel b1 31 x.c.toArray]) (fun i=>x.jobs.l.length - i) 0 (by (repeat' (first|exact trivial|(refine ⟨rfl,?_⟩)))) ⟨by omega,by simp,hp⟩ ?_
 clear hp hge
 rintro i e0 w ⟨hi,hall,hp⟩
 dsimp only at hi hall hp ⊢
 rcases Nat.lt_or_ge i x.jobs.l.length with hlt|hge
 ·obtain ⟨b,o,y,hA,hbb,hrow,hyy⟩:=hs.jobs.has hlt
  have hmem:=List.mem_of_getElem? hyy
  have hye:=y.mined.toNat_lt
  by_cases h1:y.mined.toNat=0∨lo≤(y.mined.toNat:Int)
  ·((conv=>whnf);repeat' ((first|((with_reducible refine br_id ?_);first|(with_reducible refine br_t ?_)|(with_reducible refine br_f ?_)|((with_reducible refine br_dec (fun hx=>?_) (fun hx=>?_))<;>(try (exfalso;first|omega|contradiction)))|((with_reducible refine br_ne (fun hx=>?_) (fun hx=>?_))<;>(try (exfalso;first|omega|contradiction))))|((with_reducible refine ar_id ?_);(refine ar_i64 (by omega) ?_))|((with_reducible refine ld_id ?_);first|((refine ld_row hp hB ‹_› ‹_› _ _ rfl ‹_› (by rfl) ?_))|(apply ld_hs hp;(focus repeat' constructor);exact rfl))|((with_reducible refine gen_id ?_);first|((refine gen_ixs rfl rfl ‹_› rfl rfl (by omega) ?_))|(apply gen_len;exact rfl;exact rfl;assumption)))<;>(conv=>whnf)))
   all_goals first
    |exact lp_next (i+1) (by show x.jobs.l.length - (i+1) < x.jobs.l.length - i;omega) (by (repeat' (first|exact trivial|(refine ⟨rfl,?_⟩)))) ⟨by show i+1≤_;omega,all_snoc hall hyy (decide_eq_true h1),hp⟩
    |omega
  ·((conv=>whnf);repeat' ((first|((with_reducible refine br_id ?_);first|(with_reducible refine br_t ?_)|((with_reducible refine br_dec (fun hx=>?_) (fun hx=>?_))<;>(try (exfalso;first|omega|contradiction)))|((with_reducible refine br_ne (fun hx=>?_) (fun hx=>?_))<;>(try (exfalso;first|omega|contradiction))))|((with_reducible refine ar_id ?_);(refine ar_i64 (by omega) ?_))|((with_reducible refine ld_id ?_);first|((refine ld_row hp hB ‹_› ‹_› _ _ rfl ‹_› (by rfl) ?_))|(apply ld_hs hp;(focus repeat' constructor);exact rfl))|((with_reducible refine gen_id ?_);first|((refine gen_ixs rfl rfl ‹_› rfl rfl (by omega) ?_))|(apply gen_len;exact rfl;exact rfl;assumption)))<;>(conv=>whnf)))
   all_goals first
    |exact ps_val (v':= .bool false) rfl ⟨by rw [all_not hmem (decide_eq_false h1)],hp.chg⟩
    |omega
 ·((conv=>whnf);repeat' ((first|((with_reducible refine br_id ?_);((with_reducible refine br_dec (fun hx=>?_) (fun hx=>?_))<;>(try (exfalso;first|omega|contradiction))))|((with_reducible refine ld_id ?_);(apply ld_hs hp;(focus repeat' constructor);exact rfl))|((with_reducible refine gen_id ?_);(apply gen_len;exact rfl;exact rfl;assumption)))<;>(conv=>whnf)))
  exact ps_val (v':= .bool true) rfl ⟨by rw [all_end hall hge],hp.chg⟩
end Go.Proofs.YteabebmlclgakaaGreat
/- Aud3: package audit: what stands in the window. Of states that are few. -/
namespace Go.Proofs.YteabebmlclgakaaGreat
open Go.RowKit
set_option maxRecDepth 100000
set_option maxHeartbeats 4000000
theorem bhas_any {B:Nat} {w0:World} {b:Blk} (h:SlAt B w0 Id.c 32 b.tx) (v:Id):Calls Tryz.prog 204 #[b.v,v.v] w0 fun e w'=>e= .returned (.bool (decide (v∈b.tx.l)))∧Chg N0 w0 w':=by
 have hp:=Hp.start (S:=N0) w0
 have hB:∀b,N0 b→B≤b:=fun _ hh=>hh.elim
 have us:=Tryz.underlying52
 have hmax:b.tx.l.length≤9223372036854775807:=by have:=h.le;have:=h.max;simp only [maxLen] at this;omega
 refine calls_x (args:= [_,_]) tabOk Tryz.func204 Tryz.ntmps204 Tryz.results204 rfl (Nat.le_of_ble_eq_true rfl) ?_
 ((conv=>whnf);repeat' ((first|((with_reducible refine ld_id ?_);(apply ld_hs hp;(focus repeat' constructor);exact rfl))|((with_reducible refine al_id ?_);(refine al_cel hp ?_;clear hp;intro bb w hp))|((with_reducible refine gen_id ?_);(apply gen_len;exact rfl;exact rfl;assumption)))<;>(conv=>whnf)))
 obtain ⟨b3,hb3⟩:∃x,x=bb:=⟨_,rfl⟩
 subst hb3
 obtain ⟨b2',hb2⟩:∃x,x=bb:=⟨_,rfl⟩
 subst hb2
 refine lp_inv (α:=Nat) (fun i=> [(3,ptr b3),(8,b.tx.v),(9,i64 b.tx.l.length),(10,i64 i)]) (fun i w=>i≤b.tx.l.length∧(∀y∈b.tx.l.take i,y≠v)∧Hp N0 w0 w [cel b3 44 v.c.toArray,cel b2' 54 b.c.toArray]) (fun i=>b.tx.l.length - i) 0 (by (repeat' (first|exact trivial|(refine ⟨rfl,?_⟩)))) ⟨by omega,by simp,hp⟩ ?_
 clear hp
 rintro i e0 w ⟨hi,hno,hp⟩
 dsimp only at hi hno hp ⊢
 rcases Nat.lt_or_ge i b.tx.l.length with hlt|hge
 ·obtain ⟨bb,oo,y,hA,hbb,hrow,hyy⟩:=h.has hlt
  ((conv=>whnf);repeat' ((first|((with_reducible refine br_id ?_);first|((with_reducible refine br_dec (fun hx=>?_) (fun hx=>?_))<;>(try (exfalso;first|omega|contradiction)))|((with_reducible refine br_s (fun hx=>?_) (fun hx=>?_))<;>(try (exfalso;first|omega|contradiction))))|((with_reducible refine ar_id ?_);(refine ar_i64 (by omega) ?_))|((with_reducible refine cn_id ?_);(refine cn rfl ?_))|((with_reducible refine ldn_id ?_);first|((refine ldn_rowx hp hB ‹_› ‹_› _ rfl ‹_› rfl ?_))|(apply lda_hs hp;(focus repeat' constructor);exact rfl))|((with_reducible refine al_id ?_);(refine al_cel hp ?_;clear hp;intro bb w hp))|((with_reducible refine st_id ?_);(apply sta_hs hp;(focus repeat' constructor);exact rfl;exact rfl;clear hp;intro w hp;(try dsimp only [List.set] at hp)))|((with_reducible refine gen_id ?_);first|((refine gen_ixs rfl rfl ‹_› rfl rfl (by omega) ?_))|((refine gen_eqa rfl rfl rfl (eq_id y v) (by kernel_rfl) (.inl rfl) ?_))))<;>(conv=>whnf)))
  ·have he:y=v:=by simpa using hx
   exact ps_val (v':= .bool true) rfl ⟨by rw [decide_eq_true (he▸List.mem_of_getElem? hyy)],hp.chg⟩
  ·have hne:y≠v:=by simpa using hx
   refine lp_next (i+1) (by show b.tx.l.length - (i+1) < b.tx.l.length - i;omega) (by (repeat' (first|exact trivial|(refine ⟨rfl,?_⟩)))) ⟨by show i+1≤_;omega,fun z hz=>?_,hp.tail⟩
   rw [List.take_add_one,hyy] at hz
   rcases List.mem_append.1 hz with hz|hz
   ·exact hno z hz
   ·simp at hz
    subst hz
    exact hne
 ·((conv=>whnf);repeat' (((with_reducible refine br_id ?_);((with_reducible refine br_dec (fun hx=>?_) (fun hx=>?_))<;>(try (exfalso;first|omega|contradiction))))<;>(conv=>whnf)))
  have hno':v∉b.tx.l:=fun hm=>hno v (by rwa [List.take_of_length_le hge]) rfl
  exact ps_val (v':= .bool false) rfl ⟨by rw [decide_eq_false hno'],hp.chg⟩
def atI (x:Sta) (h:UInt32):Int:=(h.toNat:Int) - (x.ht.toNat:Int)+(x.win.l.length:Int) - 1
def stI (x:Sta) (h:UInt32):Bool:=decide (0≤atI x h∧atI x h < (x.win.l.length:Int))
def stT (x:Sta) (h:UInt32) (l:List Id):Bool:=match x.win.l[(atI x h).toNat]? with
 |some b=>stI x h && l.any fun v=>decide (v∈b.tx.l)
 |none=>false
theorem astands_any {B B':Nat} {w0:World} {x:Sta} {s:Sl Id} (h:UInt32) (hs:StaAt B w0 x) (hf:FewI x) (ha:SlAt B' w0 Id.c 32 s) (hn:s.l.length≤100):Calls Tryz.prog 205 #[x.v,u32 h,s.v] w0 fun e w'=>e= .returned (.tuple #[.bool (stI x h), .bool (stT x h s.l)])∧Chg N0 w0 w':=by
 have hp:=Hp.start (S:=N0) w0
 have hB:∀b,N0 b→B≤b:=fun _ hh=>hh.elim
 have hB':∀b,N0 b→B'≤b:=fun _ hh=>hh.elim
 have u1:=Tryz.underlying52
 have u3:=Tryz.underlying26
 have f3:=hf.win
 have hht:=x.ht.toNat_lt
 have hh1:=h.toNat_lt
 obtain ⟨a,haa⟩:∃a,atI x h=a:=⟨_,rfl⟩
 have haa2:(h.toNat:Int) - (x.ht.toNat:Int)+(x.win.l.length:Int) - 1=a:=haa
 have ar_at:∀{f:Int→Prop},f a→Ar .i64 ((h.toNat:Int) - (x.ht.toNat:Int)+(x.win.l.length:Int) - 1) f:=fun {f} hh=>ar_i64 (by omega) (by rw [haa2];exact hh)
 by_cases hin:0≤a∧a < (x.win.l.length:Int)
 ·obtain ⟨n,hn1⟩:∃n:Nat,a=n:=⟨a.toNat,by omega⟩
  subst hn1
  have hnl:n < x.win.l.length:=by omega
  obtain ⟨b,o,y,hA,hbb,hrow,hyy⟩:=hs.win.has hnl
  have hya:=hs.tx y (List.mem_of_getElem? hyy)
  have hI:stI x h=true:=by unfold stI;rw [haa];exact decide_eq_true hin
  have hT:stT x h s.l=s.l.any fun v=>decide (v∈y.tx.l):=by
   unfold stT
   rw [haa,Int.toNat_natCast,hyy,hI]
   exact Bool.true_and _
  rw [hI,hT]
  refine calls_x (args:= [_,_,_]) tabOk Tryz.func205 Tryz.ntmps205 Tryz.results205 rfl (Nat.le_of_ble_eq_true rfl) ?_
  ((conv=>whnf);repeat' ((first|((with_reducible refine br_id ?_);first|(with_reducible refine br_f ?_)|((with_reducible refine br_dec (fun hx=>?_) (fun hx=>?_))<;>(try (exfalso;first|omega|contradiction))))|((with_reducible refine ar_id ?_);first|((refine ar_at ?_))|(refine ar_i64 (by omega) ?_))|((with_reducible refine ld_id ?_);(apply ld_hs hp;(focus repeat' constructor);exact rfl))|((with_reducible refine al_id ?_);(refine al_cel hp ?_;clear hp;intro bb w hp))|((with_reducible refine gen_id ?_);(apply gen_len;exact rfl;exact rfl;assumption)))<;>(conv=>whnf)))
  obtain ⟨b3,hb3⟩:∃x,x=bb:=⟨_,rfl⟩
  subst hb3
  refine lp_inv (α:=Nat) (fun i=> [(3,ptr b3),(7, .bool ((s.l.take i).any fun v=>decide (v∈y.tx.l))),(8,i64 n),(31,s.v),(32,i64 s.l.length),(33,i64 i)]) (fun i w=>i≤s.l.length∧Hp N0 w0 w [cel b3 31 x.c.toArray]) (fun i=>s.l.length - i) 0 (by (repeat' (first|exact trivial|(refine ⟨rfl,?_⟩)))) ⟨by omega,hp⟩ ?_
  clear hp
  rintro i e0 w ⟨hi,hp⟩
  dsimp only at hi hp ⊢
  rcases Nat.lt_or_ge i s.l.length with hlt|hge
  ·obtain ⟨b',o',v,hA',hbb',hrow',hvv⟩:=ha.has hlt
   have hst:(s.l.take (i+1)).any (fun v=>decide (v∈y.tx.l))=((s.l.take i).any (fun v=>decide (v∈y.tx.l))|| decide (v∈y.tx.l)):=by
    rw [List.take_add_one,hvv,List.any_append]
    simp
   obtain ⟨q,hq⟩:∃q,(s.l.take i).any (fun v=>decide (v∈y.tx.l))=q:=⟨_,rfl⟩
   rw [hq] at hst ⊢
   cases q with
   |true=>
    ((conv=>whnf);repeat' ((first|((with_reducible refine br_id ?_);first|(with_reducible refine br_t ?_)|((with_reducible refine br_dec (fun hx=>?_) (fun hx=>?_))<;>(try (exfalso;first|omega|contradiction))))|((with_reducible refine ar_id ?_);(refine ar_i64 (by omega) ?_))|((with_reducible refine cn_id ?_);(refine cn rfl ?_))|((with_reducible refine ldn_id ?_);((refine ldn_rowx hp hB' hbb' hrow' i rfl hvv rfl ?_)))|((with_reducible refine al_id ?_);(refine al_cel hp ?_;clear hp;intro bb w hp))|((with_reducible refine st_id ?_);(apply sta_hs hp;(focus repeat' constructor);exact rfl;exact rfl;clear hp;intro w hp;(try dsimp only [List.set] at hp)))|((with_reducible refine gen_id ?_);((refine gen_ixs rfl rfl hA' rfl rfl (by omega) ?_)))|((with_reducible refine dr_id ?_);(refine dr_auto tabOk (by kernel_rfl) (by decide+kernel) ?_;(try replace hp:=hp.drew))))<;>(conv=>whnf)))
    exact lp_next (i+1) (by show s.l.length - (i+1) < s.l.length - i;omega) (by rw [hst];(repeat' (first|exact trivial|(refine ⟨rfl,?_⟩)))) ⟨by show i+1≤_;omega,hp.tail⟩
   |false=>
    rw [Bool.false_or] at hst
    ((conv=>whnf);repeat' ((first|((with_reducible refine br_id ?_);first|(with_reducible refine br_f ?_)|((with_reducible refine br_dec (fun hx=>?_) (fun hx=>?_))<;>(try (exfalso;first|omega|contradiction))))|((with_reducible refine ar_id ?_);(refine ar_i64 (by omega) ?_))|((with_reducible refine cn_id ?_);(refine cn rfl ?_))|((with_reducible refine ld_id ?_);(apply ld_hs hp;(focus repeat' constructor);exact rfl))|((with_reducible refine ldn_id ?_);first|((refine ldn_rowx hp hB' hbb' hrow' i rfl hvv rfl ?_))|((refine ldn_rowx hp hB hbb hrow n rfl hyy rfl ?_))|(apply lda_hs hp;(focus repeat' constructor);exact rfl))|((with_reducible refine al_id ?_);(refine al_cel hp ?_;clear hp;intro bb w hp))|((with_reducible refine st_id ?_);(apply sta_hs hp;(focus repeat' constructor);exact rfl;exact rfl;clear hp;intro w hp;(try dsimp only [List.set] at hp)))|((with_reducible refine gen_id ?_);((refine gen_ixs rfl rfl hA' rfl rfl (by omega) ?_)))|((with_reducible refine dr_id ?_);(refine dr_auto tabOk (by kernel_rfl) (by decide+kernel) ?_;(try replace hp:=hp.drew)))|((with_reducible refine cl_id ?_);((refine cl_eq ((bhas_any (hya.keep hp.chg hB) v)) rfl rfl ?_;rintro e w ⟨rfl,hcc⟩;replace hp:=hp.call0 hcc;refine ⟨_,rfl,?_⟩)))|((with_reducible refine rd_id ?_);((refine rd_ixs rfl rfl hA rfl rfl (by omega) ?_))))<;>(conv=>whnf)))
    all_goals exact lp_next (i+1) (by show s.l.length - (i+1) < s.l.length - i;omega) (by rw [hst];(repeat' (first|exact trivial|(refine ⟨rfl,?_⟩)))) ⟨by show i+1≤_;omega,hp.tail⟩
  ·rw [List.take_of_length_le hge]
   ((conv=>whnf);repeat' (((with_reducible refine br_id ?_);((with_reducible refine br_dec (fun hx=>?_) (fun hx=>?_))<;>(try (exfalso;first|omega|contradiction))))<;>(conv=>whnf)))
   exact ps_val (v':= .tuple #[.bool true, .bool (s.l.any fun v=>decide (v∈y.tx.l))]) rfl ⟨rfl,hp.chg⟩
 ·have hI:stI x h=false:=by unfold stI;rw [haa];exact decide_eq_false hin
  have hT:stT x h s.l=false:=by
   unfold stT
   rw [hI]
   split<;>simp
  rw [hI,hT]
  refine calls_x (args:= [_,_,_]) tabOk Tryz.func205 Tryz.ntmps205 Tryz.results205 rfl (Nat.le_of_ble_eq_true rfl) ?_
  ((conv=>whnf);repeat' ((first|((with_reducible refine br_id ?_);first|(with_reducible refine br_t ?_)|(with_reducible refine br_f ?_)|((with_reducible refine br_dec (fun hx=>?_) (fun hx=>?_))<;>(try (exfalso;first|omega|contradiction))))|((with_reducible refine ar_id ?_);first|((refine ar_at ?_))|(refine ar_i64 (by omega) ?_))|((with_reducible refine ld_id ?_);(apply ld_hs hp;(focus repeat' constructor);exact rfl))|((with_reducible refine al_id ?_);(refine al_cel hp ?_;clear hp;intro bb w hp))|((with_reducible refine gen_id ?_);(apply gen_len;exact rfl;exact rfl;assumption)))<;>(conv=>whnf)))
  all_goals first
   |exact ps_val (v':= .tuple #[.bool false, .bool false]) rfl ⟨rfl,hp.chg⟩
   |omega
end Go.Proofs.YteabebmlclgakaaGreat
/- Aud4: package audit: jobs against the window. Of states that are few. -/
namespace Go.Proofs.YteabebmlclgakaaGreat
open Go.RowKit
set_option maxRecDepth 100000
set_option maxHeartbeats 4000000
def opnV (j:Job) (b:Blk) (v:Id):Bool:= !decide (j.mined.toNat=0)|| !decide (v∈b.tx.l)
def opnB (j:Job) (b:Blk):Bool:=(idsP j.pay).all (opnV j b)
def opnJ (x:Sta) (j:Job):Bool:=x.win.l.all (opnB j)
theorem aopen_any {B:Nat} {w0:World} {x:Sta} (hs:StaAt B w0 x) (hBw:B≤w0.heap.size) (hf:FewI x):Calls Tryz.prog 147 #[x.v] w0 fun e w'=>e= .returned (.bool (x.jobs.l.all (opnJ x)))∧Chg N0 w0 w':=by
 have hp:=Hp.start (S:=N0) w0
 have hB:∀b,N0 b→B≤b:=fun _ hh=>hh.elim
 have u1:=Tryz.underlying52
 have u3:=Tryz.underlying26
 have u4:=Tryz.underlying29
 have f3:=hf.win
 have f4:=hf.jobs
 refine calls_x (args:= [_]) tabOk Tryz.func147 Tryz.ntmps147 Tryz.results147 rfl (Nat.le_of_ble_eq_true rfl) ?_
 ((conv=>whnf);repeat' ((first|((with_reducible refine ld_id ?_);(apply ld_hs hp;(focus repeat' constructor);exact rfl))|((with_reducible refine al_id ?_);(refine al_cel hp ?_;clear hp;intro bb w hp))|((with_reducible refine gen_id ?_);(apply gen_len;exact rfl;exact rfl;assumption)))<;>(conv=>whnf)))
 obtain ⟨b1,hb1⟩:∃x,x=bb:=⟨_,rfl⟩
 subst hb1
 refine lp_inv (α:=Nat) (fun i=> [(1,ptr b1),(10,x.jobs.v),(11,i64 x.jobs.l.length),(12,i64 i)]) (fun i w=>i≤x.jobs.l.length∧(∀z∈x.jobs.l.take i,opnJ x z=true)∧Hp N0 w0 w [cel b1 31 x.c.toArray]) (fun i=>x.jobs.l.length - i) 0 (by (repeat' (first|exact trivial|(refine ⟨rfl,?_⟩)))) ⟨by omega,by simp,hp⟩ ?_
 clear hp
 rintro i e0 w ⟨hi,hall,hp⟩
 dsimp only at hi hall hp ⊢
 rcases Nat.lt_or_ge i x.jobs.l.length with hlt|hge
 ·obtain ⟨b,o,y,hA,hbb,hrow,hyy⟩:=hs.jobs.has hlt
  have hmem:=List.mem_of_getElem? hyy
  have hyp:=hs.pay y hmem
  have hyf:=hf.pay y hmem
  have hyl:(idsP y.pay).length≤20:=by show (y.pay.l.map _).length≤20;rw [List.length_map];exact (fewP_at hyf).2
  ((conv=>whnf);repeat' ((first|((with_reducible refine br_id ?_);((with_reducible refine br_dec (fun hx=>?_) (fun hx=>?_))<;>(try (exfalso;first|omega|contradiction))))|((with_reducible refine cn_id ?_);(refine cn rfl ?_))|((with_reducible refine ld_id ?_);(apply ld_hs hp;(focus repeat' constructor);exact rfl))|((with_reducible refine ldn_id ?_);((refine ldn_rowx hp hB ‹_› ‹_› _ rfl ‹_› rfl ?_)))|((with_reducible refine al_id ?_);(refine al_cel hp ?_;clear hp;intro bb w hp))|((with_reducible refine st_id ?_);(apply sta_hs hp;(focus repeat' constructor);exact rfl;exact rfl;clear hp;intro w hp;(try dsimp only [List.set] at hp)))|((with_reducible refine gen_id ?_);first|((refine gen_ixs rfl rfl ‹_› rfl rfl (by omega) ?_))|(apply gen_len;exact rfl;exact rfl;assumption)))<;>(conv=>whnf)))
  obtain ⟨b4,hb4⟩:∃x,x=bb:=⟨_,rfl⟩
  subst hb4
  refine lp_inv (α:=Nat) (fun k=> [(1,ptr b1),(4,ptr b4),(10,x.jobs.v),(11,i64 x.jobs.l.length),(12,i64 i),(17,x.win.v),(18,i64 x.win.l.length),(19,i64 k)]) (fun k w=>k≤x.win.l.length∧(∀z∈x.win.l.take k,opnB y z=true)∧Hp N0 w0 w [cel b4 49 y.c.toArray,cel b1 31 x.c.toArray]) (fun k=>x.win.l.length - k) 0 (by (repeat' (first|exact trivial|(refine ⟨rfl,?_⟩)))) ⟨by omega,by simp,hp⟩ ?_
  clear hp
  rintro k e0 w ⟨hk,hallk,hp⟩
  dsimp only at hk hallk hp ⊢
  rcases Nat.lt_or_ge k x.win.l.length with hlk|hgk
  ·obtain ⟨b',o',c,hA',hbb',hrow',hcc⟩:=hs.win.has hlk
   have hcm:=List.mem_of_getElem? hcc
   have hca:=hs.tx c hcm
   ((conv=>whnf);repeat' ((first|((with_reducible refine br_id ?_);((with_reducible refine br_dec (fun hx=>?_) (fun hx=>?_))<;>(try (exfalso;first|omega|contradiction))))|((with_reducible refine cn_id ?_);(refine cn rfl ?_))|((with_reducible refine ldn_id ?_);first|((refine ldn_rowx hp hB hbb' hrow' k rfl hcc rfl ?_))|(apply ldn_hs hp;(focus repeat' constructor);exact rfl;exact rfl))|((with_reducible refine al_id ?_);(refine al_cel hp ?_;clear hp;intro bb w hp))|((with_reducible refine st_id ?_);(apply sta_hs hp;(focus repeat' constructor);exact rfl;exact rfl;clear hp;intro w hp;(try dsimp only [List.set] at hp)))|((with_reducible refine gen_id ?_);((refine gen_ixs rfl rfl hA' rfl rfl (by omega) ?_))))<;>(conv=>whnf)))
   obtain ⟨b6,hb6⟩:∃x,x=bb:=⟨_,rfl⟩
   subst hb6
   refine cl_eq (ids_any (hyp.keep hp.chg hB) (Nat.le_trans hBw hp.chg.size) hyf) rfl rfl ?_
   rintro e w ⟨ids,hids,rfl,hm⟩
   replace hp:=hp.add hm
   clear hm
   refine ⟨_,rfl,?_⟩
   have hil:ids.l.length≤20:=by rw [hids];exact hyl
   ((conv=>whnf);repeat' (((with_reducible refine gen_id ?_);(apply gen_len;exact rfl;exact rfl;assumption))<;>(conv=>whnf)))
   refine lp_inv (α:=Nat) (fun n=> [(1,ptr b1),(4,ptr b4),(6,ptr b6),(10,x.jobs.v),(11,i64 x.jobs.l.length),(12,i64 i),(17,x.win.v),(18,i64 x.win.l.length),(19,i64 k),(25,ids.v),(26,i64 ids.l.length),(27,i64 n)]) (fun n w=>n≤ids.l.length∧(∀z∈ids.l.take n,opnV y c z=true)∧Hp N0 w0 w [rowR 44 32 Id.c ids,cel b6 54 c.c.toArray,cel b4 49 y.c.toArray,cel b1 31 x.c.toArray]) (fun n=>ids.l.length - n) 0 (by (repeat' (first|exact trivial|(refine ⟨rfl,?_⟩)))) ⟨by omega,by simp,hp⟩ ?_
   clear hp
   rintro n e0 w ⟨hn,halln,hp⟩
   dsimp only at hn halln hp ⊢
   rcases Nat.lt_or_ge n ids.l.length with hln|hgn
   ·obtain ⟨b2,o2,v,hA2,hbb2,hrow2,hvv⟩:=(hp.row (j:=0) rfl).has hln
    have hvm:v∈idsP y.pay:=hids▸List.mem_of_getElem? hvv
    have hno:∀{w:World},opnV y c v=false→Chg N0 w0 w→Ending.returned (.bool false)= .returned (.bool (x.jobs.l.all (opnJ x)))∧Chg N0 w0 w:=fun hv hc=>⟨by rw [all_not hmem (show opnJ x y=false from all_not hcm (show opnB y c=false from all_not hvm hv))],hc⟩
    by_cases h0:y.mined.toNat=0
    ·obtain ⟨q,hq⟩:∃q,decide (v∈c.tx.l)=q:=⟨_,rfl⟩
     have hV:opnV y c v= !q:=by unfold opnV;rw [hq,decide_eq_true h0];rfl
     have hb:=fun {w:World} (hc:Chg N0 w0 w)=>bhas_any (b:=c) (hca.keep hc hB) v
     rw [hq] at hb
     cases q with
     |true=>
      ((conv=>whnf);repeat' ((first|((with_reducible refine br_id ?_);first|(with_reducible refine br_t ?_)|((with_reducible refine br_dec (fun hx=>?_) (fun hx=>?_))<;>(try (exfalso;first|omega|contradiction)))|((with_reducible refine br_eq (fun hx=>?_) (fun hx=>?_))<;>(try (exfalso;first|omega|contradiction))))|((with_reducible refine cn_id ?_);(refine cn rfl ?_))|((with_reducible refine ld_id ?_);(apply ld_hs hp;(focus repeat' constructor);exact rfl))|((with_reducible refine ldn_id ?_);first|((refine ldn_rowat hrow2 n 0 rfl hvv rfl rfl ?_))|(apply lda_hs hp;(focus repeat' constructor);exact rfl))|((with_reducible refine al_id ?_);(refine al_cel hp ?_;clear hp;intro bb w hp))|((with_reducible refine st_id ?_);(apply sta_hs hp;(focus repeat' constructor);exact rfl;exact rfl;clear hp;intro w hp;(try dsimp only [List.set] at hp)))|((with_reducible refine gen_id ?_);((refine gen_ixs rfl rfl hA2 rfl rfl (by omega) ?_)))|((with_reducible refine cl_id ?_);((refine cl_eq ((hb hp.chg)) rfl rfl ?_;rintro e w ⟨rfl,hcc⟩;replace hp:=hp.call0 hcc;refine ⟨_,rfl,?_⟩))))<;>(conv=>whnf)))
      all_goals first
       |exact ps_val (v':= .bool false) rfl (hno hV hp.chg)
       |omega
     |false=>
      ((conv=>whnf);repeat' ((first|((with_reducible refine br_id ?_);first|(with_reducible refine br_t ?_)|(with_reducible refine br_f ?_)|((with_reducible refine br_dec (fun hx=>?_) (fun hx=>?_))<;>(try (exfalso;first|omega|contradiction)))|((with_reducible refine br_eq (fun hx=>?_) (fun hx=>?_))<;>(try (exfalso;first|omega|contradiction))))|((with_reducible refine ar_id ?_);(refine ar_i64 (by omega) ?_))|((with_reducible refine cn_id ?_);(refine cn rfl ?_))|((with_reducible refine ld_id ?_);(apply ld_hs hp;(focus repeat' constructor);exact rfl))|((with_reducible refine ldn_id ?_);first|((refine ldn_rowat hrow2 n 0 rfl hvv rfl rfl ?_))|(apply lda_hs hp;(focus repeat' constructor);exact rfl))|((with_reducible refine al_id ?_);(refine al_cel hp ?_;clear hp;intro bb w hp))|((with_reducible refine st_id ?_);(apply sta_hs hp;(focus repeat' constructor);exact rfl;exact rfl;clear hp;intro w hp;(try dsimp only [List.set] at hp)))|((with_reducible refine gen_id ?_);((refine gen_ixs rfl rfl hA2 rfl rfl (by omega) ?_)))|((with_reducible refine cl_id ?_);((refine cl_eq ((hb hp.chg)) rfl rfl ?_;rintro e w ⟨rfl,hcc⟩;replace hp:=hp.call0 hcc;refine ⟨_,rfl,?_⟩))))<;>(conv=>whnf)))
      all_goals first
       |exact lp_next (n+1) (by show ids.l.length - (n+1) < ids.l.length - n;omega) (by (repeat' (first|exact trivial|(refine ⟨rfl,?_⟩)))) ⟨by show n+1≤_;omega,all_snoc halln hvv hV,hp.tail⟩
       |omega
    ·have hV:opnV y c v=true:=by unfold opnV;rw [decide_eq_false h0];rfl
     ((conv=>whnf);repeat' ((first|((with_reducible refine br_id ?_);first|(with_reducible refine br_f ?_)|((with_reducible refine br_dec (fun hx=>?_) (fun hx=>?_))<;>(try (exfalso;first|omega|contradiction)))|((with_reducible refine br_eq (fun hx=>?_) (fun hx=>?_))<;>(try (exfalso;first|omega|contradiction))))|((with_reducible refine ar_id ?_);(refine ar_i64 (by omega) ?_))|((with_reducible refine cn_id ?_);(refine cn rfl ?_))|((with_reducible refine ld_id ?_);(apply ld_hs hp;(focus repeat' constructor);exact rfl))|((with_reducible refine ldn_id ?_);((refine ldn_rowat hrow2 n 0 rfl hvv rfl rfl ?_)))|((with_reducible refine al_id ?_);(refine al_cel hp ?_;clear hp;intro bb w hp))|((with_reducible refine st_id ?_);(apply sta_hs hp;(focus repeat' constructor);exact rfl;exact rfl;clear hp;intro w hp;(try dsimp only [List.set] at hp)))|((with_reducible refine gen_id ?_);((refine gen_ixs rfl rfl hA2 rfl rfl (by omega) ?_))))<;>(conv=>whnf)))
     all_goals first
      |exact lp_next (n+1) (by show ids.l.length - (n+1) < ids.l.length - n;omega) (by (repeat' (first|exact trivial|(refine ⟨rfl,?_⟩)))) ⟨by show n+1≤_;omega,all_snoc halln hvv hV,hp.tail⟩
      |omega
   ·have hBt:opnB y c=true:=by unfold opnB;rw [←hids];exact all_end halln hgn
    ((conv=>whnf);repeat' ((first|((with_reducible refine br_id ?_);((with_reducible refine br_dec (fun hx=>?_) (fun hx=>?_))<;>(try (exfalso;first|omega|contradiction))))|((with_reducible refine ar_id ?_);(refine ar_i64 (by omega) ?_)))<;>(conv=>whnf)))
    exact lp_next (k+1) (by show x.win.l.length - (k+1) < x.win.l.length - k;omega) (by (repeat' (first|exact trivial|(refine ⟨rfl,?_⟩)))) ⟨by show k+1≤_;omega,all_snoc hallk hcc hBt,hp.tail.tail⟩
  ·have hJt:opnJ x y=true:=all_end hallk hgk
   ((conv=>whnf);repeat' ((first|((with_reducible refine br_id ?_);((with_reducible refine br_dec (fun hx=>?_) (fun hx=>?_))<;>(try (exfalso;first|omega|contradiction))))|((with_reducible refine ar_id ?_);(refine ar_i64 (by omega) ?_)))<;>(conv=>whnf)))
   exact lp_next (i+1) (by show x.jobs.l.length - (i+1) < x.jobs.l.length - i;omega) (by (repeat' (first|exact trivial|(refine ⟨rfl,?_⟩)))) ⟨by show i+1≤_;omega,all_snoc hall hyy hJt,hp.tail⟩
 ·((conv=>whnf);repeat' (((with_reducible refine br_id ?_);((with_reducible refine br_dec (fun hx=>?_) (fun hx=>?_))<;>(try (exfalso;first|omega|contradiction))))<;>(conv=>whnf)))
  exact ps_val (v':= .bool true) rfl ⟨by rw [all_end hall hge],hp.chg⟩
def brcJ (x:Sta) (j:Job):Bool:= !(stI x j.height && !stT x j.height [j.breach])
theorem abreach_any {B:Nat} {w0:World} {x:Sta} (hs:StaAt B w0 x) (hBw:B≤w0.heap.size) (hf:FewI x):Calls Tryz.prog 148 #[x.v] w0 fun e w'=>e= .returned (.bool (x.jobs.l.all (brcJ x)))∧Chg N0 w0 w':=by
 have hp:=Hp.start (S:=N0) w0
 have hB:∀b,N0 b→B≤b:=fun _ hh=>hh.elim
 have u4:=Tryz.underlying29
 have f4:=hf.jobs
 refine calls_x (args:= [_]) tabOk Tryz.func148 Tryz.ntmps148 Tryz.results148 rfl (Nat.le_of_ble_eq_true rfl) ?_
 ((conv=>whnf);repeat' ((first|((with_reducible refine ld_id ?_);(apply ld_hs hp;(focus repeat' constructor);exact rfl))|((with_reducible refine al_id ?_);(refine al_cel hp ?_;clear hp;intro bb w hp))|((with_reducible refine gen_id ?_);(apply gen_len;exact rfl;exact rfl;assumption)))<;>(conv=>whnf)))
 obtain ⟨b1,hb1⟩:∃x,x=bb:=⟨_,rfl⟩
 subst hb1
 refine lp_inv (α:=Nat) (fun i=> [(1,ptr b1),(8,x.jobs.v),(9,i64 x.jobs.l.length),(10,i64 i)]) (fun i w=>i≤x.jobs.l.length∧(∀z∈x.jobs.l.take i,brcJ x z=true)∧Hp N0 w0 w [cel b1 31 x.c.toArray]) (fun i=>x.jobs.l.length - i) 0 (by (repeat' (first|exact trivial|(refine ⟨rfl,?_⟩)))) ⟨by omega,by simp,hp⟩ ?_
 clear hp
 rintro i e0 w ⟨hi,hall,hp⟩
 dsimp only at hi hall hp ⊢
 rcases Nat.lt_or_ge i x.jobs.l.length with hlt|hge
 ·obtain ⟨b,o,y,hA,hbb,hrow,hyy⟩:=hs.jobs.has hlt
  have hmem:=List.mem_of_getElem? hyy
  have hno:∀{w:World},brcJ x y=false→Chg N0 w0 w→Ending.returned (.bool false)= .returned (.bool (x.jobs.l.all (brcJ x)))∧Chg N0 w0 w:=fun hv hc=>⟨by rw [all_not hmem hv],hc⟩
  ((conv=>whnf);repeat' ((first|((with_reducible refine br_id ?_);((with_reducible refine br_dec (fun hx=>?_) (fun hx=>?_))<;>(try (exfalso;first|omega|contradiction))))|((with_reducible refine cn_id ?_);(refine cn rfl ?_))|((with_reducible refine ld_id ?_);(apply ld_hs hp;(focus repeat' constructor);exact rfl))|((with_reducible refine ldn_id ?_);first|((refine ldn_rowx hp hB ‹_› ‹_› _ rfl ‹_› rfl ?_))|(apply lda_hs hp;(focus repeat' constructor);exact rfl)|(apply ldn_hs hp;(focus repeat' constructor);exact rfl;exact rfl))|((with_reducible refine al_id ?_);(refine al_cel hp ?_;clear hp;intro bb w hp))|((with_reducible refine st_id ?_);(apply sta_hs hp;(focus repeat' constructor);exact rfl;exact rfl;clear hp;intro w hp;(try dsimp only [List.set] at hp)))|((with_reducible refine gen_id ?_);first|((refine gen_ixs rfl rfl ‹_› rfl rfl (by omega) ?_))|((refine gen_bs rfl hp el_id Id.c [y.breach] [y.breach.v] rfl rfl rfl (fun _ hh=>by simp at hh;subst hh;rfl) (by omega) ?_);clear hp;intro br w hp)))<;>(conv=>whnf)))
  refine cl_eq (astands_any (s:=⟨some ⟨br,0,none⟩,1, [y.breach]⟩) y.height (hs.keep hp.chg hB) hf (hp.row (j:=0) rfl) (by simp)) rfl rfl ?_
  rintro e w ⟨rfl,hcc⟩
  replace hp:=hp.call0 hcc
  refine ⟨_,rfl,?_⟩
  have hJ:brcJ x y= !(stI x y.height && !stT x y.height [y.breach]):=rfl
  obtain ⟨q1,hq1⟩:∃q,stI x y.height=q:=⟨_,rfl⟩
  obtain ⟨q2,hq2⟩:∃q,stT x y.height [y.breach]=q:=⟨_,rfl⟩
  dsimp only
  rw [hq1,hq2] at hJ ⊢
  cases q1 with
  |false=>
   ((conv=>whnf);repeat' ((first|((with_reducible refine br_id ?_);(with_reducible refine br_f ?_))|((with_reducible refine ar_id ?_);(refine ar_i64 (by omega) ?_)))<;>(conv=>whnf)))
   exact lp_next (i+1) (by show x.jobs.l.length - (i+1) < x.jobs.l.length - i;omega) (by (repeat' (first|exact trivial|(refine ⟨rfl,?_⟩)))) ⟨by show i+1≤_;omega,all_snoc hall hyy hJ,hp.tail.tail⟩
  |true=>
   cases q2 with
   |false=>
    ((conv=>whnf);repeat' (((with_reducible refine br_id ?_);first|(with_reducible refine br_t ?_)|(with_reducible refine br_f ?_)|(with_reducible refine br_not ?_))<;>(conv=>whnf)))
    exact ps_val (v':= .bool false) rfl (hno hJ hp.chg)
   |true=>
    ((conv=>whnf);repeat' ((first|((with_reducible refine br_id ?_);first|(with_reducible refine br_t ?_)|(with_reducible refine br_not ?_))|((with_reducible refine ar_id ?_);(refine ar_i64 (by omega) ?_)))<;>(conv=>whnf)))
    exact lp_next (i+1) (by show x.jobs.l.length - (i+1) < x.jobs.l.length - i;omega) (by (repeat' (first|exact trivial|(refine ⟨rfl,?_⟩)))) ⟨by show i+1≤_;omega,all_snoc hall hyy hJ,hp.tail.tail⟩
 ·((conv=>whnf);repeat' (((with_reducible refine br_id ?_);((with_reducible refine br_dec (fun hx=>?_) (fun hx=>?_))<;>(try (exfalso;first|omega|contradiction))))<;>(conv=>whnf)))
  exact ps_val (v':= .bool true) rfl ⟨by rw [all_end hall hge],hp.chg⟩
end Go.Proofs.YteabebmlclgakaaGreat
